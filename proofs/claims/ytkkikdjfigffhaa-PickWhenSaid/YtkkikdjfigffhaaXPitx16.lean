-- By a program of this work (xprint.py) over the translation; Lean checks it.
import Derived.Test.YtkkikdjfigffhaaXPitx0
import Derived.Test.YtkkikdjfigffhaaXPitx1
import Derived.Test.YtkkikdjfigffhaaXPitx4
import Derived.Test.YtkkikdjfigffhaaXPitx7
import Derived.Test.YtkkikdjfigffhaaXPitx9
import Derived.Test.YtkkikdjfigffhaaXPitx10
import Derived.Test.YtkkikdjfigffhaaXPitx11
namespace Go.Proofs.Ytkkikdjfigffhaa.XPit
open Go.RowKit Go.Proofs.YtkkikdjfigffhaaW.PrintWords Go.Proofs.YtkkikdjfigffhaaW.PrintLast Go.Proofs.YtkkikdjfigffhaaW.PrintMore
attribute [local go_sem] max2_int min2_int max_two min_two max_three min_three max_four min_four   -- for this text's walks alone
set_option linter.unusedVariables false
set_option linter.unusedSimpArgs false

attribute [local go_sem high] eqA59
theorem is_region_ {P : Program} {k : Nat} {ops : Array Oper} {d : Bool} {Q : Exit → Act → World → Prop} {a : Act} {w : World} (h : Code.wp P (Code.region k ops d) Q a w) : Code.wp P (Code.region k ops d) Q a w := h
def StopH_ (P : Prop) : Prop := P
theorem stopH_ {P : Prop} (h : StopH_ P) : P := h
theorem gostop_ {P : Prop} (h : P) : StopH_ P := h
theorem load_row3w_ {P : Program} {ops : Array Oper} {o : Oper} {a : Act} {Q : Exit → Act → World → Prop} {rest : List Oper} {W0 W : World} (hw : Region.wanted o (yielded ops a.tmps) = true) {t : TypeId} {g : Nat} {cs : Array Value} {d : TypeDesc} (_h0 : W0.heap[g]? = some (.cells cs t (0, 0))) (ho : ∃ x, o.op = .load t x ∧ a.eval x = .pointer (some ⟨g, 0, none⟩)) (hg : W.heap[g]? = some (.cells cs t (0, 0)))
    (hu : P.underlying t = some d) (hd : (match d with | .struct _ | .array _ _ => true | _ => false) = true) (hi : (P.info? t).map (·.size) = some cs.size)
    (h : wpList P ops Q rest (a.put o.dst (.agg cs)) W) : wpList P ops Q (o :: rest) a W := by
  obtain ⟨x, ho, hx⟩ := ho
  have hl : (loadCells ⟨g, 0, none⟩ cs.size).run P W = .ok cs W := by
    have h1 := run_loadCells_list (P := P) W ⟨g, 0, none⟩ cs.toList (fun j v hv => by
      rw [add_plain, blk_cell hg j]
      simpa using hv)
    simpa using h1
  have hrun : (execOp a.eval o).run P W = .ok (.value (.agg cs)) W := by
    have hv : (loadVar t ⟨g, 0, none⟩).run P W = .ok (.agg cs) W := by
      cases hq : P.info? t with
      | none => simp [hq] at hi
      | some i =>
        have hs : i.size = cs.size := by simpa [hq] using hi
        have hagg : (isAgg t).run P W = .ok true W := by
          unfold isAgg
          rw [Sem.run_bind, run_underlying hu W]
          cases d <;> simp_all
        rw [← hs] at hl
        simp [loadVar, Sem.run_bind, hagg, sizeOf, typeInfo, hq, hl]
    unfold execOp
    simp only [ho, hx, Instr.loadAt, Instr.sureAddr, Sem.run_bind, Sem.run_pure, Result.andThen_ok, hv]
  refine BigFrame.wpList_want hw fun K hK => ?_
  unfold Oper.wp
  rw [hrun]
  exact hK _ _ h
/-! ### newsreellaw43_PickWhen: function 9 -/
mutual
def newsreellaw43_PickWhen.j0 : Nat → Int → Bool → Bool → Int → Int → Int → Int → List (S66) → List (S68) → Int → Int → Option (Bool)
  | 0, _, _, _, _, _, _, _, _, _, _, _ => none
  | k + 1, x1, x6, x35, x197000, x197001, x197002, x197003, x197004, x197005, x203000, x203001 => if x35 = true then (some false) else (if x6 = true then (newsreellaw43_PickWhen.l0 k x1 false 0 x197000 x197001 x197002 x197003 x197004 x197005 x203000 x203001) else (if (x203000 == 0 && (x203001 == 0)) = true then ((newsreellaw43_awake.f k).bind fun t205 => (some t205)) else (some false)))
def newsreellaw43_PickWhen.l0 : Nat → Int → Bool → Int → Int → Int → Int → Int → List (S66) → List (S68) → Int → Int → Option (Bool)
  | 0, _, _, _, _, _, _, _, _, _, _, _ => none
  | k + 1, x1, x9, x10, x197000, x197001, x197002, x197003, x197004, x197005, x203000, x203001 => if x10 < (x197004.length : Int) then (if x203000 = 2 then (if 0 ≤ x10 then (if ((rd_T66 x197004 x10).f3) ≤ x1 then (some false) else (if x9 = true then (newsreellaw43_PickWhen.l0 k x1 true (wrap64 (x10 + 1)) x197000 x197001 x197002 x197003 x197004 x197005 x203000 x203001) else (if x203000 = 1 then (if ((rd_T66 x197004 x10).f0) = x203001 then (newsreellaw43_PickWhen.l0 k x1 (decide (((rd_T66 x197004 x10).f3) ≤ x1)) (wrap64 (x10 + 1)) x197000 x197001 x197002 x197003 x197004 x197005 x203000 x203001) else (newsreellaw43_PickWhen.l0 k x1 false (wrap64 (x10 + 1)) x197000 x197001 x197002 x197003 x197004 x197005 x203000 x203001)) else (newsreellaw43_PickWhen.l0 k x1 false (wrap64 (x10 + 1)) x197000 x197001 x197002 x197003 x197004 x197005 x203000 x203001)))) else (none)) else (if x9 = true then (newsreellaw43_PickWhen.l0 k x1 true (wrap64 (x10 + 1)) x197000 x197001 x197002 x197003 x197004 x197005 x203000 x203001) else (if x203000 = 1 then (if 0 ≤ x10 then (if ((rd_T66 x197004 x10).f0) = x203001 then (newsreellaw43_PickWhen.l0 k x1 (decide (((rd_T66 x197004 x10).f3) ≤ x1)) (wrap64 (x10 + 1)) x197000 x197001 x197002 x197003 x197004 x197005 x203000 x203001) else (newsreellaw43_PickWhen.l0 k x1 false (wrap64 (x10 + 1)) x197000 x197001 x197002 x197003 x197004 x197005 x203000 x203001)) else (none)) else (newsreellaw43_PickWhen.l0 k x1 false (wrap64 (x10 + 1)) x197000 x197001 x197002 x197003 x197004 x197005 x203000 x203001)))) else (newsreellaw43_PickWhen.l1 k x1 x9 0 x197000 x197001 x197002 x197003 x197004 x197005 x203000 x203001)
def newsreellaw43_PickWhen.l1 : Nat → Int → Bool → Int → Int → Int → Int → Int → List (S66) → List (S68) → Int → Int → Option (Bool)
  | 0, _, _, _, _, _, _, _, _, _, _, _ => none
  | k + 1, x1, x9, x11, x197000, x197001, x197002, x197003, x197004, x197005, x203000, x203001 => if x11 < (x197005.length : Int) then (if 0 ≤ x11 then (if x9 = true then (newsreellaw43_PickWhen.l1 k x1 true (wrap64 (x11 + 1)) x197000 x197001 x197002 x197003 x197004 x197005 x203000 x203001) else (if x203000 = 2 then (if ((rd_T68 x197005 x11).f0) = x203001 then ((newsreelref43_Waits.f ((rd_T68 x197005 x11).f0) ((rd_T68 x197005 x11).f1) ((rd_T68 x197005 x11).f2) ((rd_T68 x197005 x11).f3) ((rd_T68 x197005 x11).f4) ((rd_T68 x197005 x11).f5) ((rd_T68 x197005 x11).f6) ((rd_T68 x197005 x11).f7) ((rd_T68 x197005 x11).f8) ((rd_T68 x197005 x11).f9) ((rd_T68 x197005 x11).f10) ((rd_T68 x197005 x11).f11) ((rd_T68 x197005 x11).f12) ((rd_T68 x197005 x11).f13) ((rd_T68 x197005 x11).f14) ((rd_T68 x197005 x11).f15) ((rd_T68 x197005 x11).f16) ((rd_T68 x197005 x11).f17) ((rd_T68 x197005 x11).f18) ((rd_T68 x197005 x11).f19)).bind fun t213 => (if t213 = true then (newsreellaw43_PickWhen.l1 k x1 (decide (((rd_T68 x197005 x11).f12) ≤ x1)) (wrap64 (x11 + 1)) x197000 x197001 x197002 x197003 x197004 x197005 x203000 x203001) else (newsreellaw43_PickWhen.l1 k x1 false (wrap64 (x11 + 1)) x197000 x197001 x197002 x197003 x197004 x197005 x203000 x203001))) else (newsreellaw43_PickWhen.l1 k x1 false (wrap64 (x11 + 1)) x197000 x197001 x197002 x197003 x197004 x197005 x203000 x203001)) else (newsreellaw43_PickWhen.l1 k x1 false (wrap64 (x11 + 1)) x197000 x197001 x197002 x197003 x197004 x197005 x203000 x203001))) else (none)) else (if x9 = true then ((newsreellaw43_awake.f k).bind fun t214 => (some t214)) else (some false))
end
def newsreellaw43_PickWhen.f (k : Nat) (a0_0 : Int) (a0_1 : Int) (a0_2 : Int) (a0_3 : Int) (l0_4 : List (S66)) (l0_5 : List (S68)) (a1 : Int) : Option (Bool) := (newsreelref15_Light.f k a0_0 a0_1 a0_2 a0_3 l0_4 l0_5).bind fun t197 => (if t197 = true then ((pick_Of.f k a0_0 a0_1 a0_2 a0_3 l0_4 l0_5 a1).bind fun bt199 => ((pick_When.f a0_0 a0_1 a0_2 a0_3 l0_4 l0_5).bind fun bt203 => (if bt203.2 = true then (newsreellaw43_PickWhen.j0 k a1 bt199.2.2 (bt199.2.2 != (decide (bt203.1 ≤ a1))) a0_0 a0_1 a0_2 a0_3 l0_4 l0_5 bt199.1 bt199.2.1) else (newsreellaw43_PickWhen.j0 k a1 bt199.2.2 (bt199.2.2 != false) a0_0 a0_1 a0_2 a0_3 l0_4 l0_5 bt199.1 bt199.2.1)))) else ((newsreellaw43_awake.f k).bind fun t198 => (some t198)))
theorem newsreellaw43_PickWhen.mono_l : ∀ k, (∀ y0 y1 y2 y3 y4 y5 y6 y7 y8 y9 y10, LeO (newsreellaw43_PickWhen.j0 k y0 y1 y2 y3 y4 y5 y6 y7 y8 y9 y10) (newsreellaw43_PickWhen.j0 (k + 1) y0 y1 y2 y3 y4 y5 y6 y7 y8 y9 y10)) ∧ (∀ y0 y1 y2 y3 y4 y5 y6 y7 y8 y9 y10, LeO (newsreellaw43_PickWhen.l0 k y0 y1 y2 y3 y4 y5 y6 y7 y8 y9 y10) (newsreellaw43_PickWhen.l0 (k + 1) y0 y1 y2 y3 y4 y5 y6 y7 y8 y9 y10)) ∧ (∀ y0 y1 y2 y3 y4 y5 y6 y7 y8 y9 y10, LeO (newsreellaw43_PickWhen.l1 k y0 y1 y2 y3 y4 y5 y6 y7 y8 y9 y10) (newsreellaw43_PickWhen.l1 (k + 1) y0 y1 y2 y3 y4 y5 y6 y7 y8 y9 y10))
  | 0 => ⟨fun _ _ _ _ _ _ _ _ _ _ _ r h => by simp [newsreellaw43_PickWhen.j0] at h, fun _ _ _ _ _ _ _ _ _ _ _ r h => by simp [newsreellaw43_PickWhen.l0] at h, fun _ _ _ _ _ _ _ _ _ _ _ r h => by simp [newsreellaw43_PickWhen.l1] at h⟩
  | k + 1 => by
    obtain ⟨ih0, ih1, ih2⟩ := newsreellaw43_PickWhen.mono_l k
    refine ⟨?_, ?_, ?_⟩
    · intro y0 y1 y2 y3 y4 y5 y6 y7 y8 y9 y10
      unfold newsreellaw43_PickWhen.j0
      repeat' first
      | (with_reducible exact ih0 _ _ _ _ _ _ _ _ _ _ _)
      | (with_reducible exact ih1 _ _ _ _ _ _ _ _ _ _ _)
      | (with_reducible exact ih2 _ _ _ _ _ _ _ _ _ _ _)
      | (with_reducible exact newsreellaw43_awake.mono _)
      | (with_reducible exact newsreelref15_Light.mono _ _ _ _ _ _ _)
      | (with_reducible exact pick_Of.mono _ _ _ _ _ _ _ _)
      | (with_reducible exact LeO.refl _)
      | (with_reducible exact LeO.none _)
      | (with_reducible refine LeO.ite ?_ ?_)
      | (with_reducible refine LeO.bind ?_ (fun _ => ?_))
      | exact ih0 _ _ _ _ _ _ _ _ _ _ _
      | exact ih1 _ _ _ _ _ _ _ _ _ _ _
      | exact ih2 _ _ _ _ _ _ _ _ _ _ _
      | exact newsreellaw43_awake.mono _
      | exact newsreelref15_Light.mono _ _ _ _ _ _ _
      | exact pick_Of.mono _ _ _ _ _ _ _ _
      | exact LeO.none _
      | refine LeO.ite ?_ ?_
      | refine LeO.bind ?_ (fun _ => ?_)
    · intro y0 y1 y2 y3 y4 y5 y6 y7 y8 y9 y10
      unfold newsreellaw43_PickWhen.l0
      repeat' first
      | (with_reducible exact ih0 _ _ _ _ _ _ _ _ _ _ _)
      | (with_reducible exact ih1 _ _ _ _ _ _ _ _ _ _ _)
      | (with_reducible exact ih2 _ _ _ _ _ _ _ _ _ _ _)
      | (with_reducible exact newsreellaw43_awake.mono _)
      | (with_reducible exact newsreelref15_Light.mono _ _ _ _ _ _ _)
      | (with_reducible exact pick_Of.mono _ _ _ _ _ _ _ _)
      | (with_reducible exact LeO.refl _)
      | (with_reducible exact LeO.none _)
      | (with_reducible refine LeO.ite ?_ ?_)
      | (with_reducible refine LeO.bind ?_ (fun _ => ?_))
      | exact ih0 _ _ _ _ _ _ _ _ _ _ _
      | exact ih1 _ _ _ _ _ _ _ _ _ _ _
      | exact ih2 _ _ _ _ _ _ _ _ _ _ _
      | exact newsreellaw43_awake.mono _
      | exact newsreelref15_Light.mono _ _ _ _ _ _ _
      | exact pick_Of.mono _ _ _ _ _ _ _ _
      | exact LeO.none _
      | refine LeO.ite ?_ ?_
      | refine LeO.bind ?_ (fun _ => ?_)
    · intro y0 y1 y2 y3 y4 y5 y6 y7 y8 y9 y10
      unfold newsreellaw43_PickWhen.l1
      repeat' first
      | (with_reducible exact ih0 _ _ _ _ _ _ _ _ _ _ _)
      | (with_reducible exact ih1 _ _ _ _ _ _ _ _ _ _ _)
      | (with_reducible exact ih2 _ _ _ _ _ _ _ _ _ _ _)
      | (with_reducible exact newsreellaw43_awake.mono _)
      | (with_reducible exact newsreelref15_Light.mono _ _ _ _ _ _ _)
      | (with_reducible exact pick_Of.mono _ _ _ _ _ _ _ _)
      | (with_reducible exact LeO.refl _)
      | (with_reducible exact LeO.none _)
      | (with_reducible refine LeO.ite ?_ ?_)
      | (with_reducible refine LeO.bind ?_ (fun _ => ?_))
      | exact ih0 _ _ _ _ _ _ _ _ _ _ _
      | exact ih1 _ _ _ _ _ _ _ _ _ _ _
      | exact ih2 _ _ _ _ _ _ _ _ _ _ _
      | exact newsreellaw43_awake.mono _
      | exact newsreelref15_Light.mono _ _ _ _ _ _ _
      | exact pick_Of.mono _ _ _ _ _ _ _ _
      | exact LeO.none _
      | refine LeO.ite ?_ ?_
      | refine LeO.bind ?_ (fun _ => ?_)
theorem newsreellaw43_PickWhen.mono : ∀ a0 a1 a2 a3 a4 a5 a6 k, LeO (newsreellaw43_PickWhen.f k a0 a1 a2 a3 a4 a5 a6) (newsreellaw43_PickWhen.f (k + 1) a0 a1 a2 a3 a4 a5 a6) := by
  intro a0 a1 a2 a3 a4 a5 a6 k
  obtain ⟨ih0, ih1, ih2⟩ := newsreellaw43_PickWhen.mono_l k
  unfold newsreellaw43_PickWhen.f
  repeat' first
      | (with_reducible exact ih0 _ _ _ _ _ _ _ _ _ _ _)
      | (with_reducible exact ih1 _ _ _ _ _ _ _ _ _ _ _)
      | (with_reducible exact ih2 _ _ _ _ _ _ _ _ _ _ _)
      | (with_reducible exact newsreellaw43_awake.mono _)
      | (with_reducible exact newsreelref15_Light.mono _ _ _ _ _ _ _)
      | (with_reducible exact pick_Of.mono _ _ _ _ _ _ _ _)
      | (with_reducible exact LeO.refl _)
      | (with_reducible exact LeO.none _)
      | (with_reducible refine LeO.ite ?_ ?_)
      | (with_reducible refine LeO.bind ?_ (fun _ => ?_))
      | exact ih0 _ _ _ _ _ _ _ _ _ _ _
      | exact ih1 _ _ _ _ _ _ _ _ _ _ _
      | exact ih2 _ _ _ _ _ _ _ _ _ _ _
      | exact newsreellaw43_awake.mono _
      | exact newsreelref15_Light.mono _ _ _ _ _ _ _
      | exact pick_Of.mono _ _ _ _ _ _ _ _
      | exact LeO.none _
      | refine LeO.ite ?_ ?_
      | refine LeO.bind ?_ (fun _ => ?_)
set_option maxHeartbeats 8000000 in
set_option maxRecDepth 100000 in
theorem newsreellaw43_PickWhen.calls (k : Nat) (a0_0 : Int) (a0_1 : Int) (a0_2 : Int) (a0_3 : Int) (A0_4 : Option Addr) (c0_4 : Nat) (l0_4 : List (S66)) (A0_5 : Option Addr) (c0_5 : Nat) (l0_5 : List (S68)) (a1 : Int) (r : Bool) (w : World) (hr0_4 : Kd.C k66 w A0_4 l0_4.length l0_4) (hc0_4 : l0_4.length ≤ c0_4) (hr0_5 : Kd.C k68 w A0_5 l0_5.length l0_5) (hc0_5 : l0_5.length ≤ c0_5) (ht_ : r = true) (h : newsreellaw43_PickWhen.f k a0_0 a0_1 a0_2 a0_3 l0_4 l0_5 a1 = some r) :
    Calls Try.prog 9 #[.agg #[.int .i64 a0_0, .int .i64 a0_1, .int .i64 a0_2, .int .i64 a0_3, .slice A0_4 l0_4.length c0_4, .slice A0_5 l0_5.length c0_5], .int .i64 a1] w fun e w' => e = .returned (.bool r) ∧ Below w.heap.size w w' := by
  have hu56 := Try.underlying56
  have hu59 := Try.underlying59
  have hu68 := Try.underlying68
  have HR0_4 := Aside0.mk hr0_4
  have HC0_4 := Aside0.mk hc0_4
  clear hr0_4 hc0_4
  have HR0_5 := Aside0.mk hr0_5
  have HC0_5 := Aside0.mk hc0_5
  clear hr0_5 hc0_5
  have HB := Aside0.mk (Below.refl w.heap.size w)
  have H : ((newsreelref15_Light.f k a0_0 a0_1 a0_2 a0_3 l0_4 l0_5).bind fun t197 => (if t197 = true then ((pick_Of.f k a0_0 a0_1 a0_2 a0_3 l0_4 l0_5 a1).bind fun bt199 => ((pick_When.f a0_0 a0_1 a0_2 a0_3 l0_4 l0_5).bind fun bt203 => (if bt203.2 = true then (newsreellaw43_PickWhen.j0 k a1 bt199.2.2 (bt199.2.2 != (decide (bt203.1 ≤ a1))) a0_0 a0_1 a0_2 a0_3 l0_4 l0_5 bt199.1 bt199.2.1) else (newsreellaw43_PickWhen.j0 k a1 bt199.2.2 (bt199.2.2 != false) a0_0 a0_1 a0_2 a0_3 l0_4 l0_5 bt199.1 bt199.2.1)))) else ((newsreellaw43_awake.f k).bind fun t198 => (some t198)))) = some r := h
  clear h
  replace H := Option.bind_eq_some_iff.mp H
  obtain ⟨t197, A30, H⟩ := H
  replace H : (if t197 = true then ((pick_Of.f k a0_0 a0_1 a0_2 a0_3 l0_4 l0_5 a1).bind fun bt199 => ((pick_When.f a0_0 a0_1 a0_2 a0_3 l0_4 l0_5).bind fun bt203 => (if bt203.2 = true then (newsreellaw43_PickWhen.j0 k a1 bt199.2.2 (bt199.2.2 != (decide (bt203.1 ≤ a1))) a0_0 a0_1 a0_2 a0_3 l0_4 l0_5 bt199.1 bt199.2.1) else (newsreellaw43_PickWhen.j0 k a1 bt199.2.2 (bt199.2.2 != false) a0_0 a0_1 a0_2 a0_3 l0_4 l0_5 bt199.1 bt199.2.1)))) else ((newsreellaw43_awake.f k).bind fun t198 => (some t198))) = some r := H
  have A3 := Aside0.mk A30
  clear A30
  by_cases c4 : t197 = true
  rotate_left
  · replace c4 := Bool.eq_false_iff.mpr c4
    subst c4
    have H1 : ((newsreellaw43_awake.f k).bind fun t198 => (some t198)) = some r := by rw [if_neg (show ¬ (false = true) by decide)] at H; exact H
    clear H
    have H := H1
    clear H1
    replace H := Option.bind_eq_some_iff.mp H
    obtain ⟨t198, A1200, H⟩ := H
    replace H : (some t198) = some r := H
    have A120 := Aside0.mk A1200
    clear A1200
    as_aux_lemma =>
      obtain rfl := Option.some.inj H
      go_enter Try.func9, Try.ntmps9
      ((try go_wp2_with (first | ((with_reducible refine gate_load (t := 56) rfl ?_); refine load_row3 (t := 56) (g := gb196) ?hg BK196.out ?ho ?hb Try.underlying56 rfl ?hs ?_; (case hg => rfl); (case ho => refine ⟨_, rfl, ?_⟩; first | (with_reducible rfl) | (go_simp; done)); (case hb => (with_reducible repeat (first | refine blk_drewN ?_ _ | refine blk_drew ?_ | refine blk_alloc ?_ _)); with_reducible exact BK196.out); (case hs => kernel_rfl)) | ((with_reducible refine gate_dst (N := 2) rfl ?_); refine box_event ?hg (N := 2) ?hd (cs := #[.int .i64 a0_0, .int .i64 a0_1, .int .i64 a0_2, .int .i64 a0_3, .slice A0_4 l0_4.length c0_4, .slice A0_5 l0_5.length c0_5]) (t := 56) ?hr ?_; (case hd => rfl); (case hg => rfl); (case hr => first | (go_simp; done) | (go_simp; rfl)); intro gb196 hg w121 hbox hb; have n0_ := Aside0.mk (below_step (below_y HB.out) hb); have n1_ := Aside0.mk (hbox); have n2_ := Aside0.mk ((by rw [hg]; exact (below_size (below_y HB.out)) : w.heap.size ≤ gb196)); have n3_ := Aside0.mk ((by rw [hg]; exact (below_size (below_y HB.out)) : w.heap.size ≤ gb196)); clear HB; have HB := n0_; have BK196 := n1_; have GW196 := n2_; have GE196 := n3_; clear n0_ n1_ n2_ n3_; clear hb hbox hg; have hcz122_0 := bc BK196.out 0 (.int .i64 a0_0) rfl; have hcz122_1 := bc BK196.out 1 (.int .i64 a0_1) rfl; have hcz122_2 := bc BK196.out 2 (.int .i64 a0_2) rfl; have hcz122_3 := bc BK196.out 3 (.int .i64 a0_3) rfl; have hcz122_4 := bc BK196.out 4 (.slice A0_4 l0_4.length c0_4) rfl; have hcz122_5 := bc BK196.out 5 (.slice A0_5 l0_5.length c0_5) rfl; have hfz122_0 := blk_frozen BK196.out 0; have hfz122_1 := blk_frozen BK196.out 1; have hfz122_2 := blk_frozen BK196.out 2; have hfz122_3 := blk_frozen BK196.out 3; have hfz122_4 := blk_frozen BK196.out 4; have hfz122_5 := blk_frozen BK196.out 5) | (go_at_call 37; (with_reducible refine (newsreelref15_Light.calls k a0_0 a0_1 a0_2 a0_3 _ _ l0_4 _ _ l0_5 false _ ?side1 ?side2 ?side3 ?side4 A3.out).mono ?_); (case side1 => repeat (first | exact (Kd.C_below HR0_4.out HB.out) | exact HR0_4.out | (with_reducible refine Kd.C_alloc ?_ _) | (with_reducible refine Kd.C_drewN ?_ _) | (with_reducible refine Kd.C_drew ?_))); (case side2 => exact HC0_4.out); (case side3 => repeat (first | exact (Kd.C_below HR0_5.out HB.out) | exact HR0_5.out | (with_reducible refine Kd.C_alloc ?_ _) | (with_reducible refine Kd.C_drewN ?_ _) | (with_reducible refine Kd.C_drew ?_))); (case side4 => exact HC0_5.out); rintro e w123 ⟨rfl, hb⟩; have n0_ := Aside0.mk (blk_below (blk_y BK196.out) hb); have n1_ := Aside0.mk (below_step (below_y HB.out) hb); clear BK196; clear HB; have BK196 := n0_; have HB := n1_; clear n0_ n1_; (try clear hb); (try clear hb2); (try clear hk); (try clear hi)) | (go_at_call 38; (with_reducible refine (newsreellaw43_awake.calls k  t198 _ A120.out).mono ?_); rintro e w124 ⟨rfl, hb⟩; have n0_ := Aside0.mk (blk_below (blk_y BK196.out) hb); have n1_ := Aside0.mk (below_step (below_y HB.out) hb); clear BK196; clear HB; have BK196 := n0_; have HB := n1_; clear n0_ n1_; (try clear hb); (try clear hb2); (try clear hk); (try clear hi)))); iterate 4 (try ((with_reducible refine is_region_ ?_); go_quiet (first | ((with_reducible refine gate_load (t := 56) rfl ?_); refine load_row3 (t := 56) (g := gb196) ?hg BK196.out ?ho ?hb Try.underlying56 rfl ?hs ?_; (case hg => rfl); (case ho => refine ⟨_, rfl, ?_⟩; first | (with_reducible rfl) | (go_simp; done)); (case hb => (with_reducible repeat (first | refine blk_drewN ?_ _ | refine blk_drew ?_ | refine blk_alloc ?_ _)); with_reducible exact BK196.out); (case hs => kernel_rfl)) | ((with_reducible refine gate_dst (N := 2) rfl ?_); refine box_event ?hg (N := 2) ?hd (cs := #[.int .i64 a0_0, .int .i64 a0_1, .int .i64 a0_2, .int .i64 a0_3, .slice A0_4 l0_4.length c0_4, .slice A0_5 l0_5.length c0_5]) (t := 56) ?hr ?_; (case hd => rfl); (case hg => rfl); (case hr => first | (go_simp; done) | (go_simp; rfl)); intro gb196 hg w121 hbox hb; have n0_ := Aside0.mk (below_step (below_y HB.out) hb); have n1_ := Aside0.mk (hbox); have n2_ := Aside0.mk ((by rw [hg]; exact (below_size (below_y HB.out)) : w.heap.size ≤ gb196)); have n3_ := Aside0.mk ((by rw [hg]; exact (below_size (below_y HB.out)) : w.heap.size ≤ gb196)); clear HB; have HB := n0_; have BK196 := n1_; have GW196 := n2_; have GE196 := n3_; clear n0_ n1_ n2_ n3_; clear hb hbox hg; have hcz122_0 := bc BK196.out 0 (.int .i64 a0_0) rfl; have hcz122_1 := bc BK196.out 1 (.int .i64 a0_1) rfl; have hcz122_2 := bc BK196.out 2 (.int .i64 a0_2) rfl; have hcz122_3 := bc BK196.out 3 (.int .i64 a0_3) rfl; have hcz122_4 := bc BK196.out 4 (.slice A0_4 l0_4.length c0_4) rfl; have hcz122_5 := bc BK196.out 5 (.slice A0_5 l0_5.length c0_5) rfl; have hfz122_0 := blk_frozen BK196.out 0; have hfz122_1 := blk_frozen BK196.out 1; have hfz122_2 := blk_frozen BK196.out 2; have hfz122_3 := blk_frozen BK196.out 3; have hfz122_4 := blk_frozen BK196.out 4; have hfz122_5 := blk_frozen BK196.out 5) | (go_at_call 37; (with_reducible refine (newsreelref15_Light.calls k a0_0 a0_1 a0_2 a0_3 _ _ l0_4 _ _ l0_5 false _ ?side1 ?side2 ?side3 ?side4 A3.out).mono ?_); (case side1 => repeat (first | exact (Kd.C_below HR0_4.out HB.out) | exact HR0_4.out | (with_reducible refine Kd.C_alloc ?_ _) | (with_reducible refine Kd.C_drewN ?_ _) | (with_reducible refine Kd.C_drew ?_))); (case side2 => exact HC0_4.out); (case side3 => repeat (first | exact (Kd.C_below HR0_5.out HB.out) | exact HR0_5.out | (with_reducible refine Kd.C_alloc ?_ _) | (with_reducible refine Kd.C_drewN ?_ _) | (with_reducible refine Kd.C_drew ?_))); (case side4 => exact HC0_5.out); rintro e w123 ⟨rfl, hb⟩; have n0_ := Aside0.mk (blk_below (blk_y BK196.out) hb); have n1_ := Aside0.mk (below_step (below_y HB.out) hb); clear BK196; clear HB; have BK196 := n0_; have HB := n1_; clear n0_ n1_; (try clear hb); (try clear hb2); (try clear hk); (try clear hi)) | (go_at_call 38; (with_reducible refine (newsreellaw43_awake.calls k  t198 _ A120.out).mono ?_); rintro e w124 ⟨rfl, hb⟩; have n0_ := Aside0.mk (blk_below (blk_y BK196.out) hb); have n1_ := Aside0.mk (below_step (below_y HB.out) hb); clear BK196; clear HB; have BK196 := n0_; have HB := n1_; clear n0_ n1_; (try clear hb); (try clear hb2); (try clear hk); (try clear hi))); (try go_wp2))))
      go_ret
      exact ⟨by first | rfl | (simp [errW_none, errW_some] <;> rfl) | (simp [*, errW_none, errW_some] <;> rfl), by repeat (first | (with_reducible first | exact HB.out | apply below_alloc | apply pw_below_drewN | apply below_drew1 | refine below_set ?_ GE196.out) | exact HB.out)⟩
  subst c4
  have H1 : ((pick_Of.f k a0_0 a0_1 a0_2 a0_3 l0_4 l0_5 a1).bind fun bt199 => ((pick_When.f a0_0 a0_1 a0_2 a0_3 l0_4 l0_5).bind fun bt203 => (if bt203.2 = true then (newsreellaw43_PickWhen.j0 k a1 bt199.2.2 (bt199.2.2 != (decide (bt203.1 ≤ a1))) a0_0 a0_1 a0_2 a0_3 l0_4 l0_5 bt199.1 bt199.2.1) else (newsreellaw43_PickWhen.j0 k a1 bt199.2.2 (bt199.2.2 != false) a0_0 a0_1 a0_2 a0_3 l0_4 l0_5 bt199.1 bt199.2.1)))) = some r := by rw [if_pos rfl] at H; exact H
  clear H
  have H := H1
  clear H1
  replace H := Option.bind_eq_some_iff.mp H
  obtain ⟨⟨t199, t200, t201⟩, A50, H⟩ := H
  replace H : ((pick_When.f a0_0 a0_1 a0_2 a0_3 l0_4 l0_5).bind fun bt203 => (if bt203.2 = true then (newsreellaw43_PickWhen.j0 k a1 t201 (t201 != (decide (bt203.1 ≤ a1))) a0_0 a0_1 a0_2 a0_3 l0_4 l0_5 t199 t200) else (newsreellaw43_PickWhen.j0 k a1 t201 (t201 != false) a0_0 a0_1 a0_2 a0_3 l0_4 l0_5 t199 t200))) = some r := H
  have A5 := Aside0.mk A50
  clear A50
  replace H := Option.bind_eq_some_iff.mp H
  obtain ⟨⟨t203, t204⟩, A60, H⟩ := H
  replace H : (if t204 = true then (newsreellaw43_PickWhen.j0 k a1 t201 (t201 != (decide (t203 ≤ a1))) a0_0 a0_1 a0_2 a0_3 l0_4 l0_5 t199 t200) else (newsreellaw43_PickWhen.j0 k a1 t201 (t201 != false) a0_0 a0_1 a0_2 a0_3 l0_4 l0_5 t199 t200)) = some r := H
  have A6 := Aside0.mk A60
  clear A60
  have HC7 := Aside0.mk H
  clear H
  go_enter Try.func9, Try.ntmps9
  go_upto_region 5 with (first | ((with_reducible refine gate_load (t := 56) rfl ?_); refine load_row3 (t := 56) (g := gb196) ?hg BK196.out ?ho ?hb Try.underlying56 rfl ?hs ?_; (case hg => rfl); (case ho => refine ⟨_, rfl, ?_⟩; first | (with_reducible rfl) | (go_simp; done)); (case hb => (with_reducible repeat (first | refine blk_drewN ?_ _ | refine blk_drew ?_ | refine blk_alloc ?_ _)); with_reducible exact BK196.out); (case hs => kernel_rfl)) | ((with_reducible refine gate_dst (N := 2) rfl ?_); refine box_event ?hg (N := 2) ?hd (cs := #[.int .i64 a0_0, .int .i64 a0_1, .int .i64 a0_2, .int .i64 a0_3, .slice A0_4 l0_4.length c0_4, .slice A0_5 l0_5.length c0_5]) (t := 56) ?hr ?_; (case hd => rfl); (case hg => rfl); (case hr => first | (go_simp; done) | (go_simp; rfl)); intro gb196 hg w8 hbox hb; have n0_ := Aside0.mk (below_step (below_y HB.out) hb); have n1_ := Aside0.mk (hbox); have n2_ := Aside0.mk ((by rw [hg]; exact (below_size (below_y HB.out)) : w.heap.size ≤ gb196)); have n3_ := Aside0.mk ((by rw [hg]; exact (below_size (below_y HB.out)) : w.heap.size ≤ gb196)); clear HB; have HB := n0_; have BK196 := n1_; have GW196 := n2_; have GE196 := n3_; clear n0_ n1_ n2_ n3_; clear hb hbox hg; have hcz9_0 := bc BK196.out 0 (.int .i64 a0_0) rfl; have hcz9_1 := bc BK196.out 1 (.int .i64 a0_1) rfl; have hcz9_2 := bc BK196.out 2 (.int .i64 a0_2) rfl; have hcz9_3 := bc BK196.out 3 (.int .i64 a0_3) rfl; have hcz9_4 := bc BK196.out 4 (.slice A0_4 l0_4.length c0_4) rfl; have hcz9_5 := bc BK196.out 5 (.slice A0_5 l0_5.length c0_5) rfl; have hfz9_0 := blk_frozen BK196.out 0; have hfz9_1 := blk_frozen BK196.out 1; have hfz9_2 := blk_frozen BK196.out 2; have hfz9_3 := blk_frozen BK196.out 3; have hfz9_4 := blk_frozen BK196.out 4; have hfz9_5 := blk_frozen BK196.out 5) | (go_at_call 37; (with_reducible refine (newsreelref15_Light.calls k a0_0 a0_1 a0_2 a0_3 _ _ l0_4 _ _ l0_5 true _ ?side1 ?side2 ?side3 ?side4 A3.out).mono ?_); (case side1 => repeat (first | exact (Kd.C_below HR0_4.out HB.out) | exact HR0_4.out | (with_reducible refine Kd.C_alloc ?_ _) | (with_reducible refine Kd.C_drewN ?_ _) | (with_reducible refine Kd.C_drew ?_))); (case side2 => exact HC0_4.out); (case side3 => repeat (first | exact (Kd.C_below HR0_5.out HB.out) | exact HR0_5.out | (with_reducible refine Kd.C_alloc ?_ _) | (with_reducible refine Kd.C_drewN ?_ _) | (with_reducible refine Kd.C_drew ?_))); (case side4 => exact HC0_5.out); rintro e w10 ⟨rfl, hb⟩; have n0_ := Aside0.mk (blk_below (blk_y BK196.out) hb); have n1_ := Aside0.mk (below_step (below_y HB.out) hb); clear BK196; clear HB; have BK196 := n0_; have HB := n1_; clear n0_ n1_; (try clear hb); (try clear hb2); (try clear hk); (try clear hi); have hcz11_0 := bc BK196.out 0 (.int .i64 a0_0) rfl; have hcz11_1 := bc BK196.out 1 (.int .i64 a0_1) rfl; have hcz11_2 := bc BK196.out 2 (.int .i64 a0_2) rfl; have hcz11_3 := bc BK196.out 3 (.int .i64 a0_3) rfl; have hcz11_4 := bc BK196.out 4 (.slice A0_4 l0_4.length c0_4) rfl; have hcz11_5 := bc BK196.out 5 (.slice A0_5 l0_5.length c0_5) rfl; have hfz11_0 := blk_frozen BK196.out 0; have hfz11_1 := blk_frozen BK196.out 1; have hfz11_2 := blk_frozen BK196.out 2; have hfz11_3 := blk_frozen BK196.out 3; have hfz11_4 := blk_frozen BK196.out 4; have hfz11_5 := blk_frozen BK196.out 5) | (go_at_call 39; (with_reducible refine (pick_Of.calls k a0_0 a0_1 a0_2 a0_3 _ _ l0_4 _ _ l0_5 a1 t199 t200 t201 _ ?side1 ?side2 ?side3 ?side4 A5.out).mono ?_); (case side1 => repeat (first | exact (Kd.C_below HR0_4.out HB.out) | exact HR0_4.out | (with_reducible refine Kd.C_alloc ?_ _) | (with_reducible refine Kd.C_drewN ?_ _) | (with_reducible refine Kd.C_drew ?_))); (case side2 => exact HC0_4.out); (case side3 => repeat (first | exact (Kd.C_below HR0_5.out HB.out) | exact HR0_5.out | (with_reducible refine Kd.C_alloc ?_ _) | (with_reducible refine Kd.C_drewN ?_ _) | (with_reducible refine Kd.C_drew ?_))); (case side4 => exact HC0_5.out); rintro e w12 ⟨rfl, hb⟩; have n0_ := Aside0.mk (blk_below (blk_y BK196.out) hb); have n1_ := Aside0.mk (below_step (below_y HB.out) hb); clear BK196; clear HB; have BK196 := n0_; have HB := n1_; clear n0_ n1_; (try clear hb); (try clear hb2); (try clear hk); (try clear hi)) | ((with_reducible refine gate_dst (N := 5) rfl ?_); refine box_event ?hg (N := 5) ?hd (cs := #[.int .i64 0, .int .i64 0]) (t := 59) ?hr ?_; (case hd => rfl); (case hg => rfl); (case hr => first | (go_simp; done) | (go_simp; rfl)); intro gb202 hg w13 hbox hb; have n0_ := Aside0.mk (blk_below (blk_y BK196.out) hb); have n1_ := Aside0.mk (below_step (below_y HB.out) hb); have n2_ := Aside0.mk (hbox); have n3_ := Aside0.mk ((by rw [hg]; exact (below_size (below_y HB.out)) : w.heap.size ≤ gb202)); have n4_ := Aside0.mk ((by rw [hg]; exact (below_size (below_y HB.out)) : w.heap.size ≤ gb202)); have n5_ := Aside0.mk ((by rw [hg]; exact Nat.ne_of_lt (blk_lt (blk_y BK196.out)) : gb196 ≠ gb202)); have n6_ := Aside0.mk ((by rw [hg]; exact Nat.ne_of_gt (blk_lt (blk_y BK196.out)) : gb202 ≠ gb196)); clear BK196; clear HB; have BK196 := n0_; have HB := n1_; have BK202 := n2_; have GW202 := n3_; have GE202 := n4_; have NB196_202 := n5_; have NB202_196 := n6_; clear n0_ n1_ n2_ n3_ n4_ n5_ n6_; clear hb hbox hg; have hnb14 := NB202_196.out; have hnc14 := NB196_202.out; have hcz15_0 := bc BK202.out 0 (.int .i64 0) rfl; have hcz15_1 := bc BK202.out 1 (.int .i64 0) rfl; have hfz15_0 := blk_frozen BK202.out 0; have hfz15_1 := blk_frozen BK202.out 1; have hcz16_0 := bc BK196.out 0 (.int .i64 a0_0) rfl; have hcz16_1 := bc BK196.out 1 (.int .i64 a0_1) rfl; have hcz16_2 := bc BK196.out 2 (.int .i64 a0_2) rfl; have hcz16_3 := bc BK196.out 3 (.int .i64 a0_3) rfl; have hcz16_4 := bc BK196.out 4 (.slice A0_4 l0_4.length c0_4) rfl; have hcz16_5 := bc BK196.out 5 (.slice A0_5 l0_5.length c0_5) rfl; have hfz16_0 := blk_frozen BK196.out 0; have hfz16_1 := blk_frozen BK196.out 1; have hfz16_2 := blk_frozen BK196.out 2; have hfz16_3 := blk_frozen BK196.out 3; have hfz16_4 := blk_frozen BK196.out 4; have hfz16_5 := blk_frozen BK196.out 5) | (go_at_call 41; (with_reducible refine (pick_When.calls a0_0 a0_1 a0_2 a0_3 _ _ l0_4 _ _ l0_5 t203 t204 _ ?side1 ?side2 ?side3 ?side4 A6.out).mono ?_); (case side1 => exact Kd.C_below HR0_4.out (below_y HB.out)); (case side2 => exact HC0_4.out); (case side3 => exact Kd.C_below HR0_5.out (below_y HB.out)); (case side4 => exact HC0_5.out); rintro e w17 ⟨rfl, hb⟩; have n0_ := Aside0.mk (blk_below (g := gb196) (o := .cells #[.int .i64 a0_0, .int .i64 a0_1, .int .i64 a0_2, .int .i64 a0_3, .slice A0_4 l0_4.length c0_4, .slice A0_5 l0_5.length c0_5] 56 (0, 0)) (by (iterate 2 ((with_reducible repeat (first | refine blk_drewN ?_ _ | refine blk_drew ?_ | refine blk_alloc ?_ _)); refine blk_far ?_ NB196_202.out _)); (with_reducible repeat (first | refine blk_drewN ?_ _ | refine blk_drew ?_ | refine blk_alloc ?_ _)); exact BK196.out) hb); have n1_ := Aside0.mk (blk_below (g := gb202) (o := .cells #[.int .i64 t199, .int .i64 t200] 59 (0, 0)) (by (with_reducible repeat (first | refine blk_drewN ?_ _ | refine blk_drew ?_ | refine blk_alloc ?_ _)); refine blk_put (cs := #[.int .i64 t199, .int .i64 0]) ?_ 1 _ rfl; (with_reducible repeat (first | refine blk_drewN ?_ _ | refine blk_drew ?_ | refine blk_alloc ?_ _)); refine blk_put (cs := #[.int .i64 0, .int .i64 0]) ?_ 0 _ rfl; (with_reducible repeat (first | refine blk_drewN ?_ _ | refine blk_drew ?_ | refine blk_alloc ?_ _)); exact BK202.out) hb); have n2_ := Aside0.mk (below_step (below_y HB.out) hb); clear BK196; clear BK202; clear HB; have BK196 := n0_; have BK202 := n1_; have HB := n2_; clear n0_ n1_ n2_; (try clear hb); (try clear hb2); (try clear hk); (try clear hi)))
  repeat (go_quiet (first | ((with_reducible refine gate_load (t := 56) rfl ?_); refine load_row3 (t := 56) (g := gb196) ?hg BK196.out ?ho ?hb Try.underlying56 rfl ?hs ?_; (case hg => rfl); (case ho => refine ⟨_, rfl, ?_⟩; first | (with_reducible rfl) | (go_simp; done)); (case hb => (with_reducible repeat (first | refine blk_drewN ?_ _ | refine blk_drew ?_ | refine blk_alloc ?_ _)); with_reducible exact BK196.out); (case hs => kernel_rfl)) | ((with_reducible refine gate_dst (N := 2) rfl ?_); refine box_event ?hg (N := 2) ?hd (cs := #[.int .i64 a0_0, .int .i64 a0_1, .int .i64 a0_2, .int .i64 a0_3, .slice A0_4 l0_4.length c0_4, .slice A0_5 l0_5.length c0_5]) (t := 56) ?hr ?_; (case hd => rfl); (case hg => rfl); (case hr => first | (go_simp; done) | (go_simp; rfl)); intro gb196 hg w8 hbox hb; have n0_ := Aside0.mk (below_step (below_y HB.out) hb); have n1_ := Aside0.mk (hbox); have n2_ := Aside0.mk ((by rw [hg]; exact (below_size (below_y HB.out)) : w.heap.size ≤ gb196)); have n3_ := Aside0.mk ((by rw [hg]; exact (below_size (below_y HB.out)) : w.heap.size ≤ gb196)); clear HB; have HB := n0_; have BK196 := n1_; have GW196 := n2_; have GE196 := n3_; clear n0_ n1_ n2_ n3_; clear hb hbox hg; have hcz9_0 := bc BK196.out 0 (.int .i64 a0_0) rfl; have hcz9_1 := bc BK196.out 1 (.int .i64 a0_1) rfl; have hcz9_2 := bc BK196.out 2 (.int .i64 a0_2) rfl; have hcz9_3 := bc BK196.out 3 (.int .i64 a0_3) rfl; have hcz9_4 := bc BK196.out 4 (.slice A0_4 l0_4.length c0_4) rfl; have hcz9_5 := bc BK196.out 5 (.slice A0_5 l0_5.length c0_5) rfl; have hfz9_0 := blk_frozen BK196.out 0; have hfz9_1 := blk_frozen BK196.out 1; have hfz9_2 := blk_frozen BK196.out 2; have hfz9_3 := blk_frozen BK196.out 3; have hfz9_4 := blk_frozen BK196.out 4; have hfz9_5 := blk_frozen BK196.out 5) | (go_at_call 37; (with_reducible refine (newsreelref15_Light.calls k a0_0 a0_1 a0_2 a0_3 _ _ l0_4 _ _ l0_5 true _ ?side1 ?side2 ?side3 ?side4 A3.out).mono ?_); (case side1 => repeat (first | exact (Kd.C_below HR0_4.out HB.out) | exact HR0_4.out | (with_reducible refine Kd.C_alloc ?_ _) | (with_reducible refine Kd.C_drewN ?_ _) | (with_reducible refine Kd.C_drew ?_))); (case side2 => exact HC0_4.out); (case side3 => repeat (first | exact (Kd.C_below HR0_5.out HB.out) | exact HR0_5.out | (with_reducible refine Kd.C_alloc ?_ _) | (with_reducible refine Kd.C_drewN ?_ _) | (with_reducible refine Kd.C_drew ?_))); (case side4 => exact HC0_5.out); rintro e w10 ⟨rfl, hb⟩; have n0_ := Aside0.mk (blk_below (blk_y BK196.out) hb); have n1_ := Aside0.mk (below_step (below_y HB.out) hb); clear BK196; clear HB; have BK196 := n0_; have HB := n1_; clear n0_ n1_; (try clear hb); (try clear hb2); (try clear hk); (try clear hi); have hcz11_0 := bc BK196.out 0 (.int .i64 a0_0) rfl; have hcz11_1 := bc BK196.out 1 (.int .i64 a0_1) rfl; have hcz11_2 := bc BK196.out 2 (.int .i64 a0_2) rfl; have hcz11_3 := bc BK196.out 3 (.int .i64 a0_3) rfl; have hcz11_4 := bc BK196.out 4 (.slice A0_4 l0_4.length c0_4) rfl; have hcz11_5 := bc BK196.out 5 (.slice A0_5 l0_5.length c0_5) rfl; have hfz11_0 := blk_frozen BK196.out 0; have hfz11_1 := blk_frozen BK196.out 1; have hfz11_2 := blk_frozen BK196.out 2; have hfz11_3 := blk_frozen BK196.out 3; have hfz11_4 := blk_frozen BK196.out 4; have hfz11_5 := blk_frozen BK196.out 5) | (go_at_call 39; (with_reducible refine (pick_Of.calls k a0_0 a0_1 a0_2 a0_3 _ _ l0_4 _ _ l0_5 a1 t199 t200 t201 _ ?side1 ?side2 ?side3 ?side4 A5.out).mono ?_); (case side1 => repeat (first | exact (Kd.C_below HR0_4.out HB.out) | exact HR0_4.out | (with_reducible refine Kd.C_alloc ?_ _) | (with_reducible refine Kd.C_drewN ?_ _) | (with_reducible refine Kd.C_drew ?_))); (case side2 => exact HC0_4.out); (case side3 => repeat (first | exact (Kd.C_below HR0_5.out HB.out) | exact HR0_5.out | (with_reducible refine Kd.C_alloc ?_ _) | (with_reducible refine Kd.C_drewN ?_ _) | (with_reducible refine Kd.C_drew ?_))); (case side4 => exact HC0_5.out); rintro e w12 ⟨rfl, hb⟩; have n0_ := Aside0.mk (blk_below (blk_y BK196.out) hb); have n1_ := Aside0.mk (below_step (below_y HB.out) hb); clear BK196; clear HB; have BK196 := n0_; have HB := n1_; clear n0_ n1_; (try clear hb); (try clear hb2); (try clear hk); (try clear hi)) | ((with_reducible refine gate_dst (N := 5) rfl ?_); refine box_event ?hg (N := 5) ?hd (cs := #[.int .i64 0, .int .i64 0]) (t := 59) ?hr ?_; (case hd => rfl); (case hg => rfl); (case hr => first | (go_simp; done) | (go_simp; rfl)); intro gb202 hg w13 hbox hb; have n0_ := Aside0.mk (blk_below (blk_y BK196.out) hb); have n1_ := Aside0.mk (below_step (below_y HB.out) hb); have n2_ := Aside0.mk (hbox); have n3_ := Aside0.mk ((by rw [hg]; exact (below_size (below_y HB.out)) : w.heap.size ≤ gb202)); have n4_ := Aside0.mk ((by rw [hg]; exact (below_size (below_y HB.out)) : w.heap.size ≤ gb202)); have n5_ := Aside0.mk ((by rw [hg]; exact Nat.ne_of_lt (blk_lt (blk_y BK196.out)) : gb196 ≠ gb202)); have n6_ := Aside0.mk ((by rw [hg]; exact Nat.ne_of_gt (blk_lt (blk_y BK196.out)) : gb202 ≠ gb196)); clear BK196; clear HB; have BK196 := n0_; have HB := n1_; have BK202 := n2_; have GW202 := n3_; have GE202 := n4_; have NB196_202 := n5_; have NB202_196 := n6_; clear n0_ n1_ n2_ n3_ n4_ n5_ n6_; clear hb hbox hg; have hnb14 := NB202_196.out; have hnc14 := NB196_202.out; have hcz15_0 := bc BK202.out 0 (.int .i64 0) rfl; have hcz15_1 := bc BK202.out 1 (.int .i64 0) rfl; have hfz15_0 := blk_frozen BK202.out 0; have hfz15_1 := blk_frozen BK202.out 1; have hcz16_0 := bc BK196.out 0 (.int .i64 a0_0) rfl; have hcz16_1 := bc BK196.out 1 (.int .i64 a0_1) rfl; have hcz16_2 := bc BK196.out 2 (.int .i64 a0_2) rfl; have hcz16_3 := bc BK196.out 3 (.int .i64 a0_3) rfl; have hcz16_4 := bc BK196.out 4 (.slice A0_4 l0_4.length c0_4) rfl; have hcz16_5 := bc BK196.out 5 (.slice A0_5 l0_5.length c0_5) rfl; have hfz16_0 := blk_frozen BK196.out 0; have hfz16_1 := blk_frozen BK196.out 1; have hfz16_2 := blk_frozen BK196.out 2; have hfz16_3 := blk_frozen BK196.out 3; have hfz16_4 := blk_frozen BK196.out 4; have hfz16_5 := blk_frozen BK196.out 5) | (go_at_call 41; (with_reducible refine (pick_When.calls a0_0 a0_1 a0_2 a0_3 _ _ l0_4 _ _ l0_5 t203 t204 _ ?side1 ?side2 ?side3 ?side4 A6.out).mono ?_); (case side1 => exact Kd.C_below HR0_4.out (below_y HB.out)); (case side2 => exact HC0_4.out); (case side3 => exact Kd.C_below HR0_5.out (below_y HB.out)); (case side4 => exact HC0_5.out); rintro e w17 ⟨rfl, hb⟩; have n0_ := Aside0.mk (blk_below (g := gb196) (o := .cells #[.int .i64 a0_0, .int .i64 a0_1, .int .i64 a0_2, .int .i64 a0_3, .slice A0_4 l0_4.length c0_4, .slice A0_5 l0_5.length c0_5] 56 (0, 0)) (by (iterate 2 ((with_reducible repeat (first | refine blk_drewN ?_ _ | refine blk_drew ?_ | refine blk_alloc ?_ _)); refine blk_far ?_ NB196_202.out _)); (with_reducible repeat (first | refine blk_drewN ?_ _ | refine blk_drew ?_ | refine blk_alloc ?_ _)); exact BK196.out) hb); have n1_ := Aside0.mk (blk_below (g := gb202) (o := .cells #[.int .i64 t199, .int .i64 t200] 59 (0, 0)) (by (with_reducible repeat (first | refine blk_drewN ?_ _ | refine blk_drew ?_ | refine blk_alloc ?_ _)); refine blk_put (cs := #[.int .i64 t199, .int .i64 0]) ?_ 1 _ rfl; (with_reducible repeat (first | refine blk_drewN ?_ _ | refine blk_drew ?_ | refine blk_alloc ?_ _)); refine blk_put (cs := #[.int .i64 0, .int .i64 0]) ?_ 0 _ rfl; (with_reducible repeat (first | refine blk_drewN ?_ _ | refine blk_drew ?_ | refine blk_alloc ?_ _)); exact BK202.out) hb); have n2_ := Aside0.mk (below_step (below_y HB.out) hb); clear BK196; clear BK202; clear HB; have BK196 := n0_; have BK202 := n1_; have HB := n2_; clear n0_ n1_ n2_; (try clear hb); (try clear hb2); (try clear hk); (try clear hi))); go_upto_region 5 with (first | ((with_reducible refine gate_load (t := 56) rfl ?_); refine load_row3 (t := 56) (g := gb196) ?hg BK196.out ?ho ?hb Try.underlying56 rfl ?hs ?_; (case hg => rfl); (case ho => refine ⟨_, rfl, ?_⟩; first | (with_reducible rfl) | (go_simp; done)); (case hb => (with_reducible repeat (first | refine blk_drewN ?_ _ | refine blk_drew ?_ | refine blk_alloc ?_ _)); with_reducible exact BK196.out); (case hs => kernel_rfl)) | ((with_reducible refine gate_dst (N := 2) rfl ?_); refine box_event ?hg (N := 2) ?hd (cs := #[.int .i64 a0_0, .int .i64 a0_1, .int .i64 a0_2, .int .i64 a0_3, .slice A0_4 l0_4.length c0_4, .slice A0_5 l0_5.length c0_5]) (t := 56) ?hr ?_; (case hd => rfl); (case hg => rfl); (case hr => first | (go_simp; done) | (go_simp; rfl)); intro gb196 hg w8 hbox hb; have n0_ := Aside0.mk (below_step (below_y HB.out) hb); have n1_ := Aside0.mk (hbox); have n2_ := Aside0.mk ((by rw [hg]; exact (below_size (below_y HB.out)) : w.heap.size ≤ gb196)); have n3_ := Aside0.mk ((by rw [hg]; exact (below_size (below_y HB.out)) : w.heap.size ≤ gb196)); clear HB; have HB := n0_; have BK196 := n1_; have GW196 := n2_; have GE196 := n3_; clear n0_ n1_ n2_ n3_; clear hb hbox hg; have hcz9_0 := bc BK196.out 0 (.int .i64 a0_0) rfl; have hcz9_1 := bc BK196.out 1 (.int .i64 a0_1) rfl; have hcz9_2 := bc BK196.out 2 (.int .i64 a0_2) rfl; have hcz9_3 := bc BK196.out 3 (.int .i64 a0_3) rfl; have hcz9_4 := bc BK196.out 4 (.slice A0_4 l0_4.length c0_4) rfl; have hcz9_5 := bc BK196.out 5 (.slice A0_5 l0_5.length c0_5) rfl; have hfz9_0 := blk_frozen BK196.out 0; have hfz9_1 := blk_frozen BK196.out 1; have hfz9_2 := blk_frozen BK196.out 2; have hfz9_3 := blk_frozen BK196.out 3; have hfz9_4 := blk_frozen BK196.out 4; have hfz9_5 := blk_frozen BK196.out 5) | (go_at_call 37; (with_reducible refine (newsreelref15_Light.calls k a0_0 a0_1 a0_2 a0_3 _ _ l0_4 _ _ l0_5 true _ ?side1 ?side2 ?side3 ?side4 A3.out).mono ?_); (case side1 => repeat (first | exact (Kd.C_below HR0_4.out HB.out) | exact HR0_4.out | (with_reducible refine Kd.C_alloc ?_ _) | (with_reducible refine Kd.C_drewN ?_ _) | (with_reducible refine Kd.C_drew ?_))); (case side2 => exact HC0_4.out); (case side3 => repeat (first | exact (Kd.C_below HR0_5.out HB.out) | exact HR0_5.out | (with_reducible refine Kd.C_alloc ?_ _) | (with_reducible refine Kd.C_drewN ?_ _) | (with_reducible refine Kd.C_drew ?_))); (case side4 => exact HC0_5.out); rintro e w10 ⟨rfl, hb⟩; have n0_ := Aside0.mk (blk_below (blk_y BK196.out) hb); have n1_ := Aside0.mk (below_step (below_y HB.out) hb); clear BK196; clear HB; have BK196 := n0_; have HB := n1_; clear n0_ n1_; (try clear hb); (try clear hb2); (try clear hk); (try clear hi); have hcz11_0 := bc BK196.out 0 (.int .i64 a0_0) rfl; have hcz11_1 := bc BK196.out 1 (.int .i64 a0_1) rfl; have hcz11_2 := bc BK196.out 2 (.int .i64 a0_2) rfl; have hcz11_3 := bc BK196.out 3 (.int .i64 a0_3) rfl; have hcz11_4 := bc BK196.out 4 (.slice A0_4 l0_4.length c0_4) rfl; have hcz11_5 := bc BK196.out 5 (.slice A0_5 l0_5.length c0_5) rfl; have hfz11_0 := blk_frozen BK196.out 0; have hfz11_1 := blk_frozen BK196.out 1; have hfz11_2 := blk_frozen BK196.out 2; have hfz11_3 := blk_frozen BK196.out 3; have hfz11_4 := blk_frozen BK196.out 4; have hfz11_5 := blk_frozen BK196.out 5) | (go_at_call 39; (with_reducible refine (pick_Of.calls k a0_0 a0_1 a0_2 a0_3 _ _ l0_4 _ _ l0_5 a1 t199 t200 t201 _ ?side1 ?side2 ?side3 ?side4 A5.out).mono ?_); (case side1 => repeat (first | exact (Kd.C_below HR0_4.out HB.out) | exact HR0_4.out | (with_reducible refine Kd.C_alloc ?_ _) | (with_reducible refine Kd.C_drewN ?_ _) | (with_reducible refine Kd.C_drew ?_))); (case side2 => exact HC0_4.out); (case side3 => repeat (first | exact (Kd.C_below HR0_5.out HB.out) | exact HR0_5.out | (with_reducible refine Kd.C_alloc ?_ _) | (with_reducible refine Kd.C_drewN ?_ _) | (with_reducible refine Kd.C_drew ?_))); (case side4 => exact HC0_5.out); rintro e w12 ⟨rfl, hb⟩; have n0_ := Aside0.mk (blk_below (blk_y BK196.out) hb); have n1_ := Aside0.mk (below_step (below_y HB.out) hb); clear BK196; clear HB; have BK196 := n0_; have HB := n1_; clear n0_ n1_; (try clear hb); (try clear hb2); (try clear hk); (try clear hi)) | ((with_reducible refine gate_dst (N := 5) rfl ?_); refine box_event ?hg (N := 5) ?hd (cs := #[.int .i64 0, .int .i64 0]) (t := 59) ?hr ?_; (case hd => rfl); (case hg => rfl); (case hr => first | (go_simp; done) | (go_simp; rfl)); intro gb202 hg w13 hbox hb; have n0_ := Aside0.mk (blk_below (blk_y BK196.out) hb); have n1_ := Aside0.mk (below_step (below_y HB.out) hb); have n2_ := Aside0.mk (hbox); have n3_ := Aside0.mk ((by rw [hg]; exact (below_size (below_y HB.out)) : w.heap.size ≤ gb202)); have n4_ := Aside0.mk ((by rw [hg]; exact (below_size (below_y HB.out)) : w.heap.size ≤ gb202)); have n5_ := Aside0.mk ((by rw [hg]; exact Nat.ne_of_lt (blk_lt (blk_y BK196.out)) : gb196 ≠ gb202)); have n6_ := Aside0.mk ((by rw [hg]; exact Nat.ne_of_gt (blk_lt (blk_y BK196.out)) : gb202 ≠ gb196)); clear BK196; clear HB; have BK196 := n0_; have HB := n1_; have BK202 := n2_; have GW202 := n3_; have GE202 := n4_; have NB196_202 := n5_; have NB202_196 := n6_; clear n0_ n1_ n2_ n3_ n4_ n5_ n6_; clear hb hbox hg; have hnb14 := NB202_196.out; have hnc14 := NB196_202.out; have hcz15_0 := bc BK202.out 0 (.int .i64 0) rfl; have hcz15_1 := bc BK202.out 1 (.int .i64 0) rfl; have hfz15_0 := blk_frozen BK202.out 0; have hfz15_1 := blk_frozen BK202.out 1; have hcz16_0 := bc BK196.out 0 (.int .i64 a0_0) rfl; have hcz16_1 := bc BK196.out 1 (.int .i64 a0_1) rfl; have hcz16_2 := bc BK196.out 2 (.int .i64 a0_2) rfl; have hcz16_3 := bc BK196.out 3 (.int .i64 a0_3) rfl; have hcz16_4 := bc BK196.out 4 (.slice A0_4 l0_4.length c0_4) rfl; have hcz16_5 := bc BK196.out 5 (.slice A0_5 l0_5.length c0_5) rfl; have hfz16_0 := blk_frozen BK196.out 0; have hfz16_1 := blk_frozen BK196.out 1; have hfz16_2 := blk_frozen BK196.out 2; have hfz16_3 := blk_frozen BK196.out 3; have hfz16_4 := blk_frozen BK196.out 4; have hfz16_5 := blk_frozen BK196.out 5) | (go_at_call 41; (with_reducible refine (pick_When.calls a0_0 a0_1 a0_2 a0_3 _ _ l0_4 _ _ l0_5 t203 t204 _ ?side1 ?side2 ?side3 ?side4 A6.out).mono ?_); (case side1 => exact Kd.C_below HR0_4.out (below_y HB.out)); (case side2 => exact HC0_4.out); (case side3 => exact Kd.C_below HR0_5.out (below_y HB.out)); (case side4 => exact HC0_5.out); rintro e w17 ⟨rfl, hb⟩; have n0_ := Aside0.mk (blk_below (g := gb196) (o := .cells #[.int .i64 a0_0, .int .i64 a0_1, .int .i64 a0_2, .int .i64 a0_3, .slice A0_4 l0_4.length c0_4, .slice A0_5 l0_5.length c0_5] 56 (0, 0)) (by (iterate 2 ((with_reducible repeat (first | refine blk_drewN ?_ _ | refine blk_drew ?_ | refine blk_alloc ?_ _)); refine blk_far ?_ NB196_202.out _)); (with_reducible repeat (first | refine blk_drewN ?_ _ | refine blk_drew ?_ | refine blk_alloc ?_ _)); exact BK196.out) hb); have n1_ := Aside0.mk (blk_below (g := gb202) (o := .cells #[.int .i64 t199, .int .i64 t200] 59 (0, 0)) (by (with_reducible repeat (first | refine blk_drewN ?_ _ | refine blk_drew ?_ | refine blk_alloc ?_ _)); refine blk_put (cs := #[.int .i64 t199, .int .i64 0]) ?_ 1 _ rfl; (with_reducible repeat (first | refine blk_drewN ?_ _ | refine blk_drew ?_ | refine blk_alloc ?_ _)); refine blk_put (cs := #[.int .i64 0, .int .i64 0]) ?_ 0 _ rfl; (with_reducible repeat (first | refine blk_drewN ?_ _ | refine blk_drew ?_ | refine blk_alloc ?_ _)); exact BK202.out) hb); have n2_ := Aside0.mk (below_step (below_y HB.out) hb); clear BK196; clear BK202; clear HB; have BK196 := n0_; have BK202 := n1_; have HB := n2_; clear n0_ n1_ n2_; (try clear hb); (try clear hb2); (try clear hk); (try clear hi))))
  (try simp only [Act.put, List.setIfInBounds_toArray, List.set_cons_zero, List.set_cons_succ])
  go_cut [35] (fun v35 wc => ∃ (kq : Nat) (x35_6 : Bool), v35 = .bool x35_6 ∧ Aside0 (newsreellaw43_PickWhen.j0 kq a1 t201 x35_6 a0_0 a0_1 a0_2 a0_3 l0_4 l0_5 t199 t200 = some r) ∧ Aside0 (kq ≤ k) ∧ Aside0 (wc.heap[gb196]? = some (.cells #[.int .i64 a0_0, .int .i64 a0_1, .int .i64 a0_2, .int .i64 a0_3, (.slice A0_4 l0_4.length c0_4), (.slice A0_5 l0_5.length c0_5)] 56 (0, 0))) ∧ Aside0 (wc.heap[gb202]? = some (.cells #[.int .i64 t199, .int .i64 t200] 59 (0, 0))) ∧ Aside0 (Below w.heap.size w wc))
  case first =>
    have H := HC7.out
    clear HC7
    by_cases c18 : t204 = true
    · subst c18
      have H1 : (newsreellaw43_PickWhen.j0 k a1 t201 (t201 != (decide (t203 ≤ a1))) a0_0 a0_1 a0_2 a0_3 l0_4 l0_5 t199 t200) = some r := by rw [if_pos rfl] at H; exact H
      clear H
      have H := H1
      clear H1
      as_aux_lemma =>
        have H' := Aside0.mk H
        clear H
        ((try go_wp2_with (first | ((with_reducible refine gate_load (t := 56) rfl ?_); refine load_row3 (t := 56) (g := gb196) ?hg BK196.out ?ho ?hb Try.underlying56 rfl ?hs ?_; (case hg => rfl); (case ho => refine ⟨_, rfl, ?_⟩; first | (with_reducible rfl) | (go_simp; done)); (case hb => (with_reducible repeat (first | refine blk_drewN ?_ _ | refine blk_drew ?_ | refine blk_alloc ?_ _)); with_reducible exact BK196.out); (case hs => kernel_rfl)))); iterate 4 (try ((with_reducible refine is_region_ ?_); go_quiet (first | ((with_reducible refine gate_load (t := 56) rfl ?_); refine load_row3 (t := 56) (g := gb196) ?hg BK196.out ?ho ?hb Try.underlying56 rfl ?hs ?_; (case hg => rfl); (case ho => refine ⟨_, rfl, ?_⟩; first | (with_reducible rfl) | (go_simp; done)); (case hb => (with_reducible repeat (first | refine blk_drewN ?_ _ | refine blk_drew ?_ | refine blk_alloc ?_ _)); with_reducible exact BK196.out); (case hs => kernel_rfl))); (try go_wp2))))
        go_meet
        case rel => exact ⟨_, ((t201 != (decide (t203 ≤ a1)))), (by first | rfl | (simp; done) | (simp [*]; done)), H', ⟨by first | omega | exact Nat.le_refl _⟩, ⟨by (with_reducible repeat (first | refine blk_drewN ?_ _ | refine blk_drew ?_ | refine blk_alloc ?_ _)); exact BK196.out⟩, ⟨by (with_reducible repeat (first | refine blk_drewN ?_ _ | refine blk_drew ?_ | refine blk_alloc ?_ _)); exact BK202.out⟩, ⟨by repeat (first | (with_reducible first | exact HB.out | apply below_alloc | apply pw_below_drewN | apply below_drew1 | refine below_set ?_ GE196.out | refine below_set ?_ GE202.out) | exact HB.out)⟩⟩
    · replace c18 := Bool.eq_false_iff.mpr c18
      subst c18
      have H1 : (newsreellaw43_PickWhen.j0 k a1 t201 (t201 != false) a0_0 a0_1 a0_2 a0_3 l0_4 l0_5 t199 t200) = some r := by rw [if_neg (show ¬ (false = true) by decide)] at H; exact H
      clear H
      have H := H1
      clear H1
      as_aux_lemma =>
        have H' := Aside0.mk H
        clear H
        ((try go_wp2_with (first | ((with_reducible refine gate_load (t := 56) rfl ?_); refine load_row3 (t := 56) (g := gb196) ?hg BK196.out ?ho ?hb Try.underlying56 rfl ?hs ?_; (case hg => rfl); (case ho => refine ⟨_, rfl, ?_⟩; first | (with_reducible rfl) | (go_simp; done)); (case hb => (with_reducible repeat (first | refine blk_drewN ?_ _ | refine blk_drew ?_ | refine blk_alloc ?_ _)); with_reducible exact BK196.out); (case hs => kernel_rfl)))); iterate 4 (try ((with_reducible refine is_region_ ?_); go_quiet (first | ((with_reducible refine gate_load (t := 56) rfl ?_); refine load_row3 (t := 56) (g := gb196) ?hg BK196.out ?ho ?hb Try.underlying56 rfl ?hs ?_; (case hg => rfl); (case ho => refine ⟨_, rfl, ?_⟩; first | (with_reducible rfl) | (go_simp; done)); (case hb => (with_reducible repeat (first | refine blk_drewN ?_ _ | refine blk_drew ?_ | refine blk_alloc ?_ _)); with_reducible exact BK196.out); (case hs => kernel_rfl))); (try go_wp2))))
        go_meet
        case rel => exact ⟨_, ((t201 != false)), (by first | rfl | (simp; done) | (simp [*]; done)), H', ⟨by first | omega | exact Nat.le_refl _⟩, ⟨by (with_reducible repeat (first | refine blk_drewN ?_ _ | refine blk_drew ?_ | refine blk_alloc ?_ _)); exact BK196.out⟩, ⟨by (with_reducible repeat (first | refine blk_drewN ?_ _ | refine blk_drew ?_ | refine blk_alloc ?_ _)); exact BK202.out⟩, ⟨by repeat (first | (with_reducible first | exact HB.out | apply below_alloc | apply pw_below_drewN | apply below_drew1 | refine below_set ?_ GE196.out | refine below_set ?_ GE202.out) | exact HB.out)⟩⟩
  clear HC7
  try clear c1
  try clear p2
  try clear c4
  try clear c9
  try clear c14
  try clear c18
  try clear hcz11_0
  try clear hcz11_1
  try clear hcz11_2
  try clear hcz11_3
  try clear hcz11_4
  try clear hcz11_5
  try clear hcz15_0
  try clear hcz15_1
  try clear hcz16_0
  try clear hcz16_1
  try clear hcz16_2
  try clear hcz16_3
  try clear hcz16_4
  try clear hcz16_5
  try clear hcz9_0
  try clear hcz9_1
  try clear hcz9_2
  try clear hcz9_3
  try clear hcz9_4
  try clear hcz9_5
  try clear hfz11_0
  try clear hfz11_1
  try clear hfz11_2
  try clear hfz11_3
  try clear hfz11_4
  try clear hfz11_5
  try clear hfz15_0
  try clear hfz15_1
  try clear hfz16_0
  try clear hfz16_1
  try clear hfz16_2
  try clear hfz16_3
  try clear hfz16_4
  try clear hfz16_5
  try clear hfz9_0
  try clear hfz9_1
  try clear hfz9_2
  try clear hfz9_3
  try clear hfz9_4
  try clear hfz9_5
  obtain ⟨kq, x35_6, rfl, HA, HJ6, BK196, BK202, HB⟩ := hcut
  rcases kq with _ | kj6
  · exact absurd HA.out (by simp [newsreellaw43_PickWhen.j0])
  have H := HA.out
  clear HA
  simp only [newsreellaw43_PickWhen.j0] at H
  by_cases c19 : x35_6 = true
  · subst c19
    have H1 : (some false) = some r := by rw [if_pos rfl] at H; exact H
    clear H
    have H := H1
    clear H1
    as_aux_lemma =>
      cases (Option.some.inj H).trans ht_
  replace c19 := Bool.eq_false_iff.mpr c19
  subst c19
  have H1 : (if t201 = true then (newsreellaw43_PickWhen.l0 kj6 a1 false 0 a0_0 a0_1 a0_2 a0_3 l0_4 l0_5 t199 t200) else (if (t199 == 0 && (t200 == 0)) = true then ((newsreellaw43_awake.f kj6).bind fun t205 => (some t205)) else (some false))) = some r := by rw [if_neg (show ¬ (false = true) by decide)] at H; exact H
  clear H
  have H := H1
  clear H1
  by_cases c20 : t201 = true
  rotate_left
  · replace c20 := Bool.eq_false_iff.mpr c20
    subst c20
    have H1 : (if (t199 == 0 && (t200 == 0)) = true then ((newsreellaw43_awake.f kj6).bind fun t205 => (some t205)) else (some false)) = some r := by rw [if_neg (show ¬ (false = true) by decide)] at H; exact H
    clear H
    have H := H1
    clear H1
    by_cases c115 : (t199 == 0 && (t200 == 0)) = true
    · rw [if_pos c115] at H
      have c115b0 : (t199 == 0 && (t200 == 0)) = true := c115
      (try (have c115b1 : decide (t199 = 0 && (t200 == 0)) = true := by simpa using c115))
      (try (have c115b2 : (t199 == 0 && (t200 == 0)) = true := by simpa using c115))
      clear c115
      replace H := Option.bind_eq_some_iff.mp H
      obtain ⟨t205, A1160, H⟩ := H
      replace H : (some t205) = some r := H
      have A116 := Aside0.mk A1160
      clear A1160
      as_aux_lemma =>
        obtain rfl := Option.some.inj H
        have hnb117 := NB202_196.out
        have hnc117 := NB196_202.out
        have hcz118_0 := bc BK202.out 0 (.int .i64 t199) rfl
        have hcz118_1 := bc BK202.out 1 (.int .i64 t200) rfl
        have hfz118_0 := blk_frozen BK202.out 0
        have hfz118_1 := blk_frozen BK202.out 1
        ((try go_wp2_with (first | ((with_reducible refine gate_load (t := 56) rfl ?_); refine load_row3 (t := 56) (g := gb196) ?hg BK196.out ?ho ?hb Try.underlying56 rfl ?hs ?_; (case hg => rfl); (case ho => refine ⟨_, rfl, ?_⟩; first | (with_reducible rfl) | (go_simp; done)); (case hb => (with_reducible repeat (first | refine blk_drewN ?_ _ | refine blk_drew ?_ | refine blk_alloc ?_ _)); with_reducible exact BK196.out); (case hs => kernel_rfl)) | (go_at_call 38; (with_reducible refine (newsreellaw43_awake.calls kj6  t205 _ A116.out).mono ?_); rintro e w119 ⟨rfl, hb⟩; have n0_ := Aside0.mk (blk_below (blk_y BK196.out) hb); have n1_ := Aside0.mk (blk_below (blk_y BK202.out) hb); have n2_ := Aside0.mk (below_step (below_y HB.out) hb); clear BK196; clear BK202; clear HB; have BK196 := n0_; have BK202 := n1_; have HB := n2_; clear n0_ n1_ n2_; (try clear hb); (try clear hb2); (try clear hk); (try clear hi)))); iterate 4 (try ((with_reducible refine is_region_ ?_); go_quiet (first | ((with_reducible refine gate_load (t := 56) rfl ?_); refine load_row3 (t := 56) (g := gb196) ?hg BK196.out ?ho ?hb Try.underlying56 rfl ?hs ?_; (case hg => rfl); (case ho => refine ⟨_, rfl, ?_⟩; first | (with_reducible rfl) | (go_simp; done)); (case hb => (with_reducible repeat (first | refine blk_drewN ?_ _ | refine blk_drew ?_ | refine blk_alloc ?_ _)); with_reducible exact BK196.out); (case hs => kernel_rfl)) | (go_at_call 38; (with_reducible refine (newsreellaw43_awake.calls kj6  t205 _ A116.out).mono ?_); rintro e w119 ⟨rfl, hb⟩; have n0_ := Aside0.mk (blk_below (blk_y BK196.out) hb); have n1_ := Aside0.mk (blk_below (blk_y BK202.out) hb); have n2_ := Aside0.mk (below_step (below_y HB.out) hb); clear BK196; clear BK202; clear HB; have BK196 := n0_; have BK202 := n1_; have HB := n2_; clear n0_ n1_ n2_; (try clear hb); (try clear hb2); (try clear hk); (try clear hi))); (try go_wp2))))
        go_ret
        exact ⟨by first | rfl | (simp [errW_none, errW_some] <;> rfl) | (simp [*, errW_none, errW_some] <;> rfl), by repeat (first | (with_reducible first | exact HB.out | apply below_alloc | apply pw_below_drewN | apply below_drew1 | refine below_set ?_ GE196.out | refine below_set ?_ GE202.out) | exact HB.out)⟩
    · rw [if_neg c115] at H
      have c115b0 : (t199 == 0 && (t200 == 0)) = false := by simpa using c115
      (try (have c115b1 : decide (t199 = 0 && (t200 == 0)) = false := by simpa using c115))
      (try (have c115b2 : (t199 == 0 && (t200 == 0)) = false := by simpa using c115))
      (try (have c115b3 : ¬ (t199 = 0 && (t200 == 0)) := by simpa using c115))
      clear c115
      as_aux_lemma =>
        cases (Option.some.inj H).trans ht_
  subst c20
  have H1 : (newsreellaw43_PickWhen.l0 kj6 a1 false 0 a0_0 a0_1 a0_2 a0_3 l0_4 l0_5 t199 t200) = some r := by rw [if_pos rfl] at H; exact H
  clear H
  have H := H1
  clear H1
  have H' := Aside0.mk H
  clear H
  go_wp2
  go_loopg [9, 10] kj6 (fun kq v9 v10 w' => ∃ (x9_2 : Bool) (x10_2 : Int), v9 = .bool x9_2 ∧ v10 = .int .i64 x10_2 ∧ Aside0 (newsreellaw43_PickWhen.l0 kq a1 x9_2 x10_2 a0_0 a0_1 a0_2 a0_3 l0_4 l0_5 t199 t200 = some r) ∧ Aside0 (kq ≤ kj6) ∧ Aside0 (w'.heap[gb196]? = some (.cells #[.int .i64 a0_0, .int .i64 a0_1, .int .i64 a0_2, .int .i64 a0_3, (.slice A0_4 l0_4.length c0_4), (.slice A0_5 l0_5.length c0_5)] 56 (0, 0))) ∧ Aside0 (w'.heap[gb202]? = some (.cells #[.int .i64 t199, .int .i64 t200] 59 (0, 0))) ∧ Aside0 (Below w.heap.size w w'))
  case atStart => exact ⟨(false), (0), (by first | rfl | (simp; done) | (simp [*]; done)), (by first | rfl | (simp; done) | (simp [*]; done)), H', ⟨Nat.le_refl _⟩, ⟨by (with_reducible repeat (first | refine blk_drewN ?_ _ | refine blk_drew ?_ | refine blk_alloc ?_ _)); exact BK196.out⟩, ⟨by (with_reducible repeat (first | refine blk_drewN ?_ _ | refine blk_drew ?_ | refine blk_alloc ?_ _)); exact BK202.out⟩, ⟨by repeat (first | (with_reducible first | exact HB.out | apply below_alloc | apply pw_below_drewN | apply below_drew1 | refine below_set ?_ GE196.out | refine below_set ?_ GE202.out) | exact HB.out)⟩⟩
  clear H'
  try clear c1
  try clear c2
  try clear p2
  try clear c4
  try clear c9
  try clear c14
  try clear c18
  try clear c19
  try clear c20
  try clear hcz11_0
  try clear hcz11_1
  try clear hcz11_2
  try clear hcz11_3
  try clear hcz11_4
  try clear hcz11_5
  try clear hcz15_0
  try clear hcz15_1
  try clear hcz16_0
  try clear hcz16_1
  try clear hcz16_2
  try clear hcz16_3
  try clear hcz16_4
  try clear hcz16_5
  try clear hcz9_0
  try clear hcz9_1
  try clear hcz9_2
  try clear hcz9_3
  try clear hcz9_4
  try clear hcz9_5
  try clear hfz11_0
  try clear hfz11_1
  try clear hfz11_2
  try clear hfz11_3
  try clear hfz11_4
  try clear hfz11_5
  try clear hfz15_0
  try clear hfz15_1
  try clear hfz16_0
  try clear hfz16_1
  try clear hfz16_2
  try clear hfz16_3
  try clear hfz16_4
  try clear hfz16_5
  try clear hfz9_0
  try clear hfz9_1
  try clear hfz9_2
  try clear hfz9_3
  try clear hfz9_4
  try clear hfz9_5
  try clear p2
  obtain ⟨x9_2, x10_2, rfl, rfl, HA, HK2, BK196, BK202, HB⟩ := hrel
  rcases gk with _ | k2
  · exact absurd HA.out (by simp [newsreellaw43_PickWhen.l0])
  have H := HA.out
  clear HA
  simp only [newsreellaw43_PickWhen.l0] at H
  by_cases c21 : x10_2 < (l0_4.length : Int)
  · rw [if_pos c21] at H
    have c21b0 : decide (x10_2 < (l0_4.length : Int)) = true := decide_eq_true c21
    clear c21
    by_cases c22 : t199 = 2
    · rw [if_pos c22] at H
      have c22b0 : (t199 == 2) = true := beq_iff_eq.mpr c22
      have c22b1 : (t199 != 2) = false := bne_eq_false_iff_eq.mpr c22
      clear c22
      by_cases c23 : 0 ≤ x10_2
      · rw [if_pos c23] at H
        have c23b0 : decide (0 ≤ x10_2) = true := decide_eq_true c23
        clear c23
        by_cases c24 : ((rd_T66 l0_4 x10_2).f3) ≤ a1
        · rw [if_pos c24] at H
          have c24b0 : decide (((rd_T66 l0_4 x10_2).f3) ≤ a1) = true := decide_eq_true c24
          clear c24
          as_aux_lemma =>
            cases (Option.some.inj H).trans ht_
        · rw [if_neg c24] at H
          have c24b0 : decide (((rd_T66 l0_4 x10_2).f3) ≤ a1) = false := decide_eq_false c24
          clear c24
          by_cases c25 : x9_2 = true
          · subst c25
            have H1 : (newsreellaw43_PickWhen.l0 k2 a1 true (wrap64 (x10_2 + 1)) a0_0 a0_1 a0_2 a0_3 l0_4 l0_5 t199 t200) = some r := by rw [if_pos rfl] at H; exact H
            clear H
            have H := H1
            clear H1
            as_aux_lemma =>
              have H' := Aside0.mk H
              clear H
              have hnb26 := NB196_202.out
              have hnc26 := NB202_196.out
              have hcz27_0 := bc BK196.out 0 (.int .i64 a0_0) rfl
              have hcz27_1 := bc BK196.out 1 (.int .i64 a0_1) rfl
              have hcz27_2 := bc BK196.out 2 (.int .i64 a0_2) rfl
              have hcz27_3 := bc BK196.out 3 (.int .i64 a0_3) rfl
              have hcz27_4 := bc BK196.out 4 (.slice A0_4 l0_4.length c0_4) rfl
              have hcz27_5 := bc BK196.out 5 (.slice A0_5 l0_5.length c0_5) rfl
              have hfz27_0 := blk_frozen BK196.out 0
              have hfz27_1 := blk_frozen BK196.out 1
              have hfz27_2 := blk_frozen BK196.out 2
              have hfz27_3 := blk_frozen BK196.out 3
              have hfz27_4 := blk_frozen BK196.out 4
              have hfz27_5 := blk_frozen BK196.out 5
              have hcz28_0 := bc BK202.out 0 (.int .i64 t199) rfl
              have hcz28_1 := bc BK202.out 1 (.int .i64 t200) rfl
              have hfz28_0 := blk_frozen BK202.out 0
              have hfz28_1 := blk_frozen BK202.out 1
              have p206 : 0 ≤ (x10_2 : Int) := of_decide_eq_true (by first | (with_reducible assumption) | assumption)
              have q206 : x10_2 < (l0_4.length : Int) := of_decide_eq_true (by first | (with_reducible assumption) | assumption)
              obtain ⟨ad206, e206, hx206_0, hx206_1, hx206_2, hx206_3, hx206_4⟩ := at_T66 HR0_4.out x10_2 p206 q206
              cases e206
              replace hx206_0 := (HB.out.cell (World.block_lt_of_cell? w _ hx206_0)).trans hx206_0
              replace hx206_1 := (HB.out.cell (World.block_lt_of_cell? w _ hx206_1)).trans hx206_1
              replace hx206_2 := (HB.out.cell (World.block_lt_of_cell? w _ hx206_2)).trans hx206_2
              replace hx206_3 := (HB.out.cell (World.block_lt_of_cell? w _ hx206_3)).trans hx206_3
              replace hx206_4 := (HB.out.cell (World.block_lt_of_cell? w _ hx206_4)).trans hx206_4
              replace p206 := eq_true p206
              replace q206 := eq_true q206
              ((try go_wp2_with (first | ((with_reducible refine gate_load (t := 66) rfl ?_); refine load_at2 (t := 66) ?hg ?ho (c0 := _) (cs := [_, _, _, _]) Try.underlying66 rfl (by kernel_rfl) hx206_0 ⟨hx206_1, hx206_2, hx206_3, hx206_4, trivial⟩ ?_; (case hg => rfl); (case ho => refine ⟨_, rfl, ?_⟩; first | (with_reducible rfl) | (go_simp; done))) | ((with_reducible refine gate_load (t := 56) rfl ?_); refine load_row3 (t := 56) (g := gb196) ?hg BK196.out ?ho ?hb Try.underlying56 rfl ?hs ?_; (case hg => rfl); (case ho => refine ⟨_, rfl, ?_⟩; first | (with_reducible rfl) | (go_simp; done)); (case hb => (with_reducible repeat (first | refine blk_drewN ?_ _ | refine blk_drew ?_ | refine blk_alloc ?_ _)); with_reducible exact BK196.out); (case hs => kernel_rfl)))); iterate 4 (try ((with_reducible refine is_region_ ?_); go_quiet (first | ((with_reducible refine gate_load (t := 66) rfl ?_); refine load_at2 (t := 66) ?hg ?ho (c0 := _) (cs := [_, _, _, _]) Try.underlying66 rfl (by kernel_rfl) hx206_0 ⟨hx206_1, hx206_2, hx206_3, hx206_4, trivial⟩ ?_; (case hg => rfl); (case ho => refine ⟨_, rfl, ?_⟩; first | (with_reducible rfl) | (go_simp; done))) | ((with_reducible refine gate_load (t := 56) rfl ?_); refine load_row3 (t := 56) (g := gb196) ?hg BK196.out ?ho ?hb Try.underlying56 rfl ?hs ?_; (case hg => rfl); (case ho => refine ⟨_, rfl, ?_⟩; first | (with_reducible rfl) | (go_simp; done)); (case hb => (with_reducible repeat (first | refine blk_drewN ?_ _ | refine blk_drew ?_ | refine blk_alloc ?_ _)); with_reducible exact BK196.out); (case hs => kernel_rfl))); (try go_wp2))))
              go_roundg k2
              case measure => have := HJ6.out; have := HK2.out; omega
              case rel => exact ⟨(true), (wrap64 (x10_2 + 1)), (by first | rfl | (simp; done) | (simp [*]; done)), (by first | rfl | (simp; done) | (simp [*]; done)), H', ⟨by have := HJ6.out; have := HK2.out; omega⟩, ⟨by (with_reducible repeat (first | refine blk_drewN ?_ _ | refine blk_drew ?_ | refine blk_alloc ?_ _)); exact BK196.out⟩, ⟨by (with_reducible repeat (first | refine blk_drewN ?_ _ | refine blk_drew ?_ | refine blk_alloc ?_ _)); exact BK202.out⟩, ⟨by repeat (first | (with_reducible first | exact HB.out | apply below_alloc | apply pw_below_drewN | apply below_drew1 | refine below_set ?_ GE196.out | refine below_set ?_ GE202.out) | exact HB.out)⟩⟩
          · replace c25 := Bool.eq_false_iff.mpr c25
            subst c25
            have H1 : (if t199 = 1 then (if ((rd_T66 l0_4 x10_2).f0) = t200 then (newsreellaw43_PickWhen.l0 k2 a1 (decide (((rd_T66 l0_4 x10_2).f3) ≤ a1)) (wrap64 (x10_2 + 1)) a0_0 a0_1 a0_2 a0_3 l0_4 l0_5 t199 t200) else (newsreellaw43_PickWhen.l0 k2 a1 false (wrap64 (x10_2 + 1)) a0_0 a0_1 a0_2 a0_3 l0_4 l0_5 t199 t200)) else (newsreellaw43_PickWhen.l0 k2 a1 false (wrap64 (x10_2 + 1)) a0_0 a0_1 a0_2 a0_3 l0_4 l0_5 t199 t200)) = some r := by rw [if_neg (show ¬ (false = true) by decide)] at H; exact H
            clear H
            have H := H1
            clear H1
            by_cases c29 : t199 = 1
            · rw [if_pos c29] at H
              have c29b0 : (t199 == 1) = true := beq_iff_eq.mpr c29
              have c29b1 : (t199 != 1) = false := bne_eq_false_iff_eq.mpr c29
              clear c29
              by_cases c30 : ((rd_T66 l0_4 x10_2).f0) = t200
              · rw [if_pos c30] at H
                have c30b0 : (((rd_T66 l0_4 x10_2).f0) == t200) = true := beq_iff_eq.mpr c30
                have c30b1 : (((rd_T66 l0_4 x10_2).f0) != t200) = false := bne_eq_false_iff_eq.mpr c30
                clear c30
                as_aux_lemma =>
                  have H' := Aside0.mk H
                  clear H
                  have hnb31 := NB196_202.out
                  have hnc31 := NB202_196.out
                  have hcz32_0 := bc BK196.out 0 (.int .i64 a0_0) rfl
                  have hcz32_1 := bc BK196.out 1 (.int .i64 a0_1) rfl
                  have hcz32_2 := bc BK196.out 2 (.int .i64 a0_2) rfl
                  have hcz32_3 := bc BK196.out 3 (.int .i64 a0_3) rfl
                  have hcz32_4 := bc BK196.out 4 (.slice A0_4 l0_4.length c0_4) rfl
                  have hcz32_5 := bc BK196.out 5 (.slice A0_5 l0_5.length c0_5) rfl
                  have hfz32_0 := blk_frozen BK196.out 0
                  have hfz32_1 := blk_frozen BK196.out 1
                  have hfz32_2 := blk_frozen BK196.out 2
                  have hfz32_3 := blk_frozen BK196.out 3
                  have hfz32_4 := blk_frozen BK196.out 4
                  have hfz32_5 := blk_frozen BK196.out 5
                  have hcz33_0 := bc BK202.out 0 (.int .i64 t199) rfl
                  have hcz33_1 := bc BK202.out 1 (.int .i64 t200) rfl
                  have hfz33_0 := blk_frozen BK202.out 0
                  have hfz33_1 := blk_frozen BK202.out 1
                  have p206 : 0 ≤ (x10_2 : Int) := of_decide_eq_true (by first | (with_reducible assumption) | assumption)
                  have q206 : x10_2 < (l0_4.length : Int) := of_decide_eq_true (by first | (with_reducible assumption) | assumption)
                  obtain ⟨ad206, e206, hx206_0, hx206_1, hx206_2, hx206_3, hx206_4⟩ := at_T66 HR0_4.out x10_2 p206 q206
                  cases e206
                  replace hx206_0 := (HB.out.cell (World.block_lt_of_cell? w _ hx206_0)).trans hx206_0
                  replace hx206_1 := (HB.out.cell (World.block_lt_of_cell? w _ hx206_1)).trans hx206_1
                  replace hx206_2 := (HB.out.cell (World.block_lt_of_cell? w _ hx206_2)).trans hx206_2
                  replace hx206_3 := (HB.out.cell (World.block_lt_of_cell? w _ hx206_3)).trans hx206_3
                  replace hx206_4 := (HB.out.cell (World.block_lt_of_cell? w _ hx206_4)).trans hx206_4
                  replace p206 := eq_true p206
                  replace q206 := eq_true q206
                  have p207 : 0 ≤ (x10_2 : Int) := of_decide_eq_true (by first | (with_reducible assumption) | assumption)
                  have q207 : x10_2 < (l0_4.length : Int) := of_decide_eq_true (by first | (with_reducible assumption) | assumption)
                  obtain ⟨ad207, e207, hx207_0, hx207_1, hx207_2, hx207_3, hx207_4⟩ := at_T66 HR0_4.out x10_2 p207 q207
                  obtain rfl : ad206 = ad207 := (by injection e207)
                  replace hx207_0 := (HB.out.cell (World.block_lt_of_cell? w _ hx207_0)).trans hx207_0
                  replace hx207_1 := (HB.out.cell (World.block_lt_of_cell? w _ hx207_1)).trans hx207_1
                  replace hx207_2 := (HB.out.cell (World.block_lt_of_cell? w _ hx207_2)).trans hx207_2
                  replace hx207_3 := (HB.out.cell (World.block_lt_of_cell? w _ hx207_3)).trans hx207_3
                  replace hx207_4 := (HB.out.cell (World.block_lt_of_cell? w _ hx207_4)).trans hx207_4
                  replace p207 := eq_true p207
                  replace q207 := eq_true q207
                  have p208 : 0 ≤ (x10_2 : Int) := of_decide_eq_true (by first | (with_reducible assumption) | assumption)
                  have q208 : x10_2 < (l0_4.length : Int) := of_decide_eq_true (by first | (with_reducible assumption) | assumption)
                  obtain ⟨ad208, e208, hx208_0, hx208_1, hx208_2, hx208_3, hx208_4⟩ := at_T66 HR0_4.out x10_2 p208 q208
                  obtain rfl : ad206 = ad208 := (by injection e208)
                  replace hx208_0 := (HB.out.cell (World.block_lt_of_cell? w _ hx208_0)).trans hx208_0
                  replace hx208_1 := (HB.out.cell (World.block_lt_of_cell? w _ hx208_1)).trans hx208_1
                  replace hx208_2 := (HB.out.cell (World.block_lt_of_cell? w _ hx208_2)).trans hx208_2
                  replace hx208_3 := (HB.out.cell (World.block_lt_of_cell? w _ hx208_3)).trans hx208_3
                  replace hx208_4 := (HB.out.cell (World.block_lt_of_cell? w _ hx208_4)).trans hx208_4
                  replace p208 := eq_true p208
                  replace q208 := eq_true q208
                  ((try go_wp2_with (first | ((with_reducible refine gate_load (t := 66) rfl ?_); refine load_at2 (t := 66) ?hg ?ho (c0 := _) (cs := [_, _, _, _]) Try.underlying66 rfl (by kernel_rfl) hx206_0 ⟨hx206_1, hx206_2, hx206_3, hx206_4, trivial⟩ ?_; (case hg => rfl); (case ho => refine ⟨_, rfl, ?_⟩; first | (with_reducible rfl) | (go_simp; done))) | ((with_reducible refine gate_load (t := 66) rfl ?_); refine load_at2 (t := 66) ?hg ?ho (c0 := _) (cs := [_, _, _, _]) Try.underlying66 rfl (by kernel_rfl) hx207_0 ⟨hx207_1, hx207_2, hx207_3, hx207_4, trivial⟩ ?_; (case hg => rfl); (case ho => refine ⟨_, rfl, ?_⟩; first | (with_reducible rfl) | (go_simp; done))) | ((with_reducible refine gate_load (t := 66) rfl ?_); refine load_at2 (t := 66) ?hg ?ho (c0 := _) (cs := [_, _, _, _]) Try.underlying66 rfl (by kernel_rfl) hx208_0 ⟨hx208_1, hx208_2, hx208_3, hx208_4, trivial⟩ ?_; (case hg => rfl); (case ho => refine ⟨_, rfl, ?_⟩; first | (with_reducible rfl) | (go_simp; done))) | ((with_reducible refine gate_load (t := 56) rfl ?_); refine load_row3 (t := 56) (g := gb196) ?hg BK196.out ?ho ?hb Try.underlying56 rfl ?hs ?_; (case hg => rfl); (case ho => refine ⟨_, rfl, ?_⟩; first | (with_reducible rfl) | (go_simp; done)); (case hb => (with_reducible repeat (first | refine blk_drewN ?_ _ | refine blk_drew ?_ | refine blk_alloc ?_ _)); with_reducible exact BK196.out); (case hs => kernel_rfl)))); iterate 4 (try ((with_reducible refine is_region_ ?_); go_quiet (first | ((with_reducible refine gate_load (t := 66) rfl ?_); refine load_at2 (t := 66) ?hg ?ho (c0 := _) (cs := [_, _, _, _]) Try.underlying66 rfl (by kernel_rfl) hx206_0 ⟨hx206_1, hx206_2, hx206_3, hx206_4, trivial⟩ ?_; (case hg => rfl); (case ho => refine ⟨_, rfl, ?_⟩; first | (with_reducible rfl) | (go_simp; done))) | ((with_reducible refine gate_load (t := 66) rfl ?_); refine load_at2 (t := 66) ?hg ?ho (c0 := _) (cs := [_, _, _, _]) Try.underlying66 rfl (by kernel_rfl) hx207_0 ⟨hx207_1, hx207_2, hx207_3, hx207_4, trivial⟩ ?_; (case hg => rfl); (case ho => refine ⟨_, rfl, ?_⟩; first | (with_reducible rfl) | (go_simp; done))) | ((with_reducible refine gate_load (t := 66) rfl ?_); refine load_at2 (t := 66) ?hg ?ho (c0 := _) (cs := [_, _, _, _]) Try.underlying66 rfl (by kernel_rfl) hx208_0 ⟨hx208_1, hx208_2, hx208_3, hx208_4, trivial⟩ ?_; (case hg => rfl); (case ho => refine ⟨_, rfl, ?_⟩; first | (with_reducible rfl) | (go_simp; done))) | ((with_reducible refine gate_load (t := 56) rfl ?_); refine load_row3 (t := 56) (g := gb196) ?hg BK196.out ?ho ?hb Try.underlying56 rfl ?hs ?_; (case hg => rfl); (case ho => refine ⟨_, rfl, ?_⟩; first | (with_reducible rfl) | (go_simp; done)); (case hb => (with_reducible repeat (first | refine blk_drewN ?_ _ | refine blk_drew ?_ | refine blk_alloc ?_ _)); with_reducible exact BK196.out); (case hs => kernel_rfl))); (try go_wp2))))
                  go_roundg k2
                  case measure => have := HJ6.out; have := HK2.out; omega
                  case rel => exact ⟨(decide (((rd_T66 l0_4 x10_2).f3) ≤ a1)), (wrap64 (x10_2 + 1)), (by first | rfl | (simp; done) | (simp [*]; done)), (by first | rfl | (simp; done) | (simp [*]; done)), H', ⟨by have := HJ6.out; have := HK2.out; omega⟩, ⟨by (with_reducible repeat (first | refine blk_drewN ?_ _ | refine blk_drew ?_ | refine blk_alloc ?_ _)); exact BK196.out⟩, ⟨by (with_reducible repeat (first | refine blk_drewN ?_ _ | refine blk_drew ?_ | refine blk_alloc ?_ _)); exact BK202.out⟩, ⟨by repeat (first | (with_reducible first | exact HB.out | apply below_alloc | apply pw_below_drewN | apply below_drew1 | refine below_set ?_ GE196.out | refine below_set ?_ GE202.out) | exact HB.out)⟩⟩
              · rw [if_neg c30] at H
                have c30b0 : (((rd_T66 l0_4 x10_2).f0) == t200) = false := beq_eq_false_iff_ne.mpr c30
                have c30b1 : (((rd_T66 l0_4 x10_2).f0) != t200) = true := bne_iff_ne.mpr c30
                as_aux_lemma =>
                  have H' := Aside0.mk H
                  clear H
                  have hnb34 := NB196_202.out
                  have hnc34 := NB202_196.out
                  have hcz35_0 := bc BK196.out 0 (.int .i64 a0_0) rfl
                  have hcz35_1 := bc BK196.out 1 (.int .i64 a0_1) rfl
                  have hcz35_2 := bc BK196.out 2 (.int .i64 a0_2) rfl
                  have hcz35_3 := bc BK196.out 3 (.int .i64 a0_3) rfl
                  have hcz35_4 := bc BK196.out 4 (.slice A0_4 l0_4.length c0_4) rfl
                  have hcz35_5 := bc BK196.out 5 (.slice A0_5 l0_5.length c0_5) rfl
                  have hfz35_0 := blk_frozen BK196.out 0
                  have hfz35_1 := blk_frozen BK196.out 1
                  have hfz35_2 := blk_frozen BK196.out 2
                  have hfz35_3 := blk_frozen BK196.out 3
                  have hfz35_4 := blk_frozen BK196.out 4
                  have hfz35_5 := blk_frozen BK196.out 5
                  have hcz36_0 := bc BK202.out 0 (.int .i64 t199) rfl
                  have hcz36_1 := bc BK202.out 1 (.int .i64 t200) rfl
                  have hfz36_0 := blk_frozen BK202.out 0
                  have hfz36_1 := blk_frozen BK202.out 1
                  have p206 : 0 ≤ (x10_2 : Int) := of_decide_eq_true (by first | (with_reducible assumption) | assumption)
                  have q206 : x10_2 < (l0_4.length : Int) := of_decide_eq_true (by first | (with_reducible assumption) | assumption)
                  obtain ⟨ad206, e206, hx206_0, hx206_1, hx206_2, hx206_3, hx206_4⟩ := at_T66 HR0_4.out x10_2 p206 q206
                  cases e206
                  replace hx206_0 := (HB.out.cell (World.block_lt_of_cell? w _ hx206_0)).trans hx206_0
                  replace hx206_1 := (HB.out.cell (World.block_lt_of_cell? w _ hx206_1)).trans hx206_1
                  replace hx206_2 := (HB.out.cell (World.block_lt_of_cell? w _ hx206_2)).trans hx206_2
                  replace hx206_3 := (HB.out.cell (World.block_lt_of_cell? w _ hx206_3)).trans hx206_3
                  replace hx206_4 := (HB.out.cell (World.block_lt_of_cell? w _ hx206_4)).trans hx206_4
                  replace p206 := eq_true p206
                  replace q206 := eq_true q206
                  have p207 : 0 ≤ (x10_2 : Int) := of_decide_eq_true (by first | (with_reducible assumption) | assumption)
                  have q207 : x10_2 < (l0_4.length : Int) := of_decide_eq_true (by first | (with_reducible assumption) | assumption)
                  obtain ⟨ad207, e207, hx207_0, hx207_1, hx207_2, hx207_3, hx207_4⟩ := at_T66 HR0_4.out x10_2 p207 q207
                  obtain rfl : ad206 = ad207 := (by injection e207)
                  replace hx207_0 := (HB.out.cell (World.block_lt_of_cell? w _ hx207_0)).trans hx207_0
                  replace hx207_1 := (HB.out.cell (World.block_lt_of_cell? w _ hx207_1)).trans hx207_1
                  replace hx207_2 := (HB.out.cell (World.block_lt_of_cell? w _ hx207_2)).trans hx207_2
                  replace hx207_3 := (HB.out.cell (World.block_lt_of_cell? w _ hx207_3)).trans hx207_3
                  replace hx207_4 := (HB.out.cell (World.block_lt_of_cell? w _ hx207_4)).trans hx207_4
                  replace p207 := eq_true p207
                  replace q207 := eq_true q207
                  ((try go_wp2_with (first | ((with_reducible refine gate_load (t := 66) rfl ?_); refine load_at2 (t := 66) ?hg ?ho (c0 := _) (cs := [_, _, _, _]) Try.underlying66 rfl (by kernel_rfl) hx206_0 ⟨hx206_1, hx206_2, hx206_3, hx206_4, trivial⟩ ?_; (case hg => rfl); (case ho => refine ⟨_, rfl, ?_⟩; first | (with_reducible rfl) | (go_simp; done))) | ((with_reducible refine gate_load (t := 66) rfl ?_); refine load_at2 (t := 66) ?hg ?ho (c0 := _) (cs := [_, _, _, _]) Try.underlying66 rfl (by kernel_rfl) hx207_0 ⟨hx207_1, hx207_2, hx207_3, hx207_4, trivial⟩ ?_; (case hg => rfl); (case ho => refine ⟨_, rfl, ?_⟩; first | (with_reducible rfl) | (go_simp; done))) | ((with_reducible refine gate_load (t := 56) rfl ?_); refine load_row3 (t := 56) (g := gb196) ?hg BK196.out ?ho ?hb Try.underlying56 rfl ?hs ?_; (case hg => rfl); (case ho => refine ⟨_, rfl, ?_⟩; first | (with_reducible rfl) | (go_simp; done)); (case hb => (with_reducible repeat (first | refine blk_drewN ?_ _ | refine blk_drew ?_ | refine blk_alloc ?_ _)); with_reducible exact BK196.out); (case hs => kernel_rfl)))); iterate 4 (try ((with_reducible refine is_region_ ?_); go_quiet (first | ((with_reducible refine gate_load (t := 66) rfl ?_); refine load_at2 (t := 66) ?hg ?ho (c0 := _) (cs := [_, _, _, _]) Try.underlying66 rfl (by kernel_rfl) hx206_0 ⟨hx206_1, hx206_2, hx206_3, hx206_4, trivial⟩ ?_; (case hg => rfl); (case ho => refine ⟨_, rfl, ?_⟩; first | (with_reducible rfl) | (go_simp; done))) | ((with_reducible refine gate_load (t := 66) rfl ?_); refine load_at2 (t := 66) ?hg ?ho (c0 := _) (cs := [_, _, _, _]) Try.underlying66 rfl (by kernel_rfl) hx207_0 ⟨hx207_1, hx207_2, hx207_3, hx207_4, trivial⟩ ?_; (case hg => rfl); (case ho => refine ⟨_, rfl, ?_⟩; first | (with_reducible rfl) | (go_simp; done))) | ((with_reducible refine gate_load (t := 56) rfl ?_); refine load_row3 (t := 56) (g := gb196) ?hg BK196.out ?ho ?hb Try.underlying56 rfl ?hs ?_; (case hg => rfl); (case ho => refine ⟨_, rfl, ?_⟩; first | (with_reducible rfl) | (go_simp; done)); (case hb => (with_reducible repeat (first | refine blk_drewN ?_ _ | refine blk_drew ?_ | refine blk_alloc ?_ _)); with_reducible exact BK196.out); (case hs => kernel_rfl))); (try go_wp2))))
                  go_roundg k2
                  case measure => have := HJ6.out; have := HK2.out; omega
                  case rel => exact ⟨(false), (wrap64 (x10_2 + 1)), (by first | rfl | (simp; done) | (simp [*]; done)), (by first | rfl | (simp; done) | (simp [*]; done)), H', ⟨by have := HJ6.out; have := HK2.out; omega⟩, ⟨by (with_reducible repeat (first | refine blk_drewN ?_ _ | refine blk_drew ?_ | refine blk_alloc ?_ _)); exact BK196.out⟩, ⟨by (with_reducible repeat (first | refine blk_drewN ?_ _ | refine blk_drew ?_ | refine blk_alloc ?_ _)); exact BK202.out⟩, ⟨by repeat (first | (with_reducible first | exact HB.out | apply below_alloc | apply pw_below_drewN | apply below_drew1 | refine below_set ?_ GE196.out | refine below_set ?_ GE202.out) | exact HB.out)⟩⟩
            · rw [if_neg c29] at H
              have c29b0 : (t199 == 1) = false := beq_eq_false_iff_ne.mpr c29
              have c29b1 : (t199 != 1) = true := bne_iff_ne.mpr c29
              as_aux_lemma =>
                have H' := Aside0.mk H
                clear H
                have hnb37 := NB196_202.out
                have hnc37 := NB202_196.out
                have hcz38_0 := bc BK196.out 0 (.int .i64 a0_0) rfl
                have hcz38_1 := bc BK196.out 1 (.int .i64 a0_1) rfl
                have hcz38_2 := bc BK196.out 2 (.int .i64 a0_2) rfl
                have hcz38_3 := bc BK196.out 3 (.int .i64 a0_3) rfl
                have hcz38_4 := bc BK196.out 4 (.slice A0_4 l0_4.length c0_4) rfl
                have hcz38_5 := bc BK196.out 5 (.slice A0_5 l0_5.length c0_5) rfl
                have hfz38_0 := blk_frozen BK196.out 0
                have hfz38_1 := blk_frozen BK196.out 1
                have hfz38_2 := blk_frozen BK196.out 2
                have hfz38_3 := blk_frozen BK196.out 3
                have hfz38_4 := blk_frozen BK196.out 4
                have hfz38_5 := blk_frozen BK196.out 5
                have hcz39_0 := bc BK202.out 0 (.int .i64 t199) rfl
                have hcz39_1 := bc BK202.out 1 (.int .i64 t200) rfl
                have hfz39_0 := blk_frozen BK202.out 0
                have hfz39_1 := blk_frozen BK202.out 1
                have p206 : 0 ≤ (x10_2 : Int) := of_decide_eq_true (by first | (with_reducible assumption) | assumption)
                have q206 : x10_2 < (l0_4.length : Int) := of_decide_eq_true (by first | (with_reducible assumption) | assumption)
                obtain ⟨ad206, e206, hx206_0, hx206_1, hx206_2, hx206_3, hx206_4⟩ := at_T66 HR0_4.out x10_2 p206 q206
                cases e206
                replace hx206_0 := (HB.out.cell (World.block_lt_of_cell? w _ hx206_0)).trans hx206_0
                replace hx206_1 := (HB.out.cell (World.block_lt_of_cell? w _ hx206_1)).trans hx206_1
                replace hx206_2 := (HB.out.cell (World.block_lt_of_cell? w _ hx206_2)).trans hx206_2
                replace hx206_3 := (HB.out.cell (World.block_lt_of_cell? w _ hx206_3)).trans hx206_3
                replace hx206_4 := (HB.out.cell (World.block_lt_of_cell? w _ hx206_4)).trans hx206_4
                replace p206 := eq_true p206
                replace q206 := eq_true q206
                ((try go_wp2_with (first | ((with_reducible refine gate_load (t := 66) rfl ?_); refine load_at2 (t := 66) ?hg ?ho (c0 := _) (cs := [_, _, _, _]) Try.underlying66 rfl (by kernel_rfl) hx206_0 ⟨hx206_1, hx206_2, hx206_3, hx206_4, trivial⟩ ?_; (case hg => rfl); (case ho => refine ⟨_, rfl, ?_⟩; first | (with_reducible rfl) | (go_simp; done))) | ((with_reducible refine gate_load (t := 56) rfl ?_); refine load_row3 (t := 56) (g := gb196) ?hg BK196.out ?ho ?hb Try.underlying56 rfl ?hs ?_; (case hg => rfl); (case ho => refine ⟨_, rfl, ?_⟩; first | (with_reducible rfl) | (go_simp; done)); (case hb => (with_reducible repeat (first | refine blk_drewN ?_ _ | refine blk_drew ?_ | refine blk_alloc ?_ _)); with_reducible exact BK196.out); (case hs => kernel_rfl)))); iterate 4 (try ((with_reducible refine is_region_ ?_); go_quiet (first | ((with_reducible refine gate_load (t := 66) rfl ?_); refine load_at2 (t := 66) ?hg ?ho (c0 := _) (cs := [_, _, _, _]) Try.underlying66 rfl (by kernel_rfl) hx206_0 ⟨hx206_1, hx206_2, hx206_3, hx206_4, trivial⟩ ?_; (case hg => rfl); (case ho => refine ⟨_, rfl, ?_⟩; first | (with_reducible rfl) | (go_simp; done))) | ((with_reducible refine gate_load (t := 56) rfl ?_); refine load_row3 (t := 56) (g := gb196) ?hg BK196.out ?ho ?hb Try.underlying56 rfl ?hs ?_; (case hg => rfl); (case ho => refine ⟨_, rfl, ?_⟩; first | (with_reducible rfl) | (go_simp; done)); (case hb => (with_reducible repeat (first | refine blk_drewN ?_ _ | refine blk_drew ?_ | refine blk_alloc ?_ _)); with_reducible exact BK196.out); (case hs => kernel_rfl))); (try go_wp2))))
                go_roundg k2
                case measure => have := HJ6.out; have := HK2.out; omega
                case rel => exact ⟨(false), (wrap64 (x10_2 + 1)), (by first | rfl | (simp; done) | (simp [*]; done)), (by first | rfl | (simp; done) | (simp [*]; done)), H', ⟨by have := HJ6.out; have := HK2.out; omega⟩, ⟨by (with_reducible repeat (first | refine blk_drewN ?_ _ | refine blk_drew ?_ | refine blk_alloc ?_ _)); exact BK196.out⟩, ⟨by (with_reducible repeat (first | refine blk_drewN ?_ _ | refine blk_drew ?_ | refine blk_alloc ?_ _)); exact BK202.out⟩, ⟨by repeat (first | (with_reducible first | exact HB.out | apply below_alloc | apply pw_below_drewN | apply below_drew1 | refine below_set ?_ GE196.out | refine below_set ?_ GE202.out) | exact HB.out)⟩⟩
      · rw [if_neg c23] at H
        exact absurd H (by simp)
    · rw [if_neg c22] at H
      have c22b0 : (t199 == 2) = false := beq_eq_false_iff_ne.mpr c22
      have c22b1 : (t199 != 2) = true := bne_iff_ne.mpr c22
      by_cases c40 : x9_2 = true
      · subst c40
        have H1 : (newsreellaw43_PickWhen.l0 k2 a1 true (wrap64 (x10_2 + 1)) a0_0 a0_1 a0_2 a0_3 l0_4 l0_5 t199 t200) = some r := by rw [if_pos rfl] at H; exact H
        clear H
        have H := H1
        clear H1
        as_aux_lemma =>
          have H' := Aside0.mk H
          clear H
          have hnb41 := NB196_202.out
          have hnc41 := NB202_196.out
          have hcz42_0 := bc BK196.out 0 (.int .i64 a0_0) rfl
          have hcz42_1 := bc BK196.out 1 (.int .i64 a0_1) rfl
          have hcz42_2 := bc BK196.out 2 (.int .i64 a0_2) rfl
          have hcz42_3 := bc BK196.out 3 (.int .i64 a0_3) rfl
          have hcz42_4 := bc BK196.out 4 (.slice A0_4 l0_4.length c0_4) rfl
          have hcz42_5 := bc BK196.out 5 (.slice A0_5 l0_5.length c0_5) rfl
          have hfz42_0 := blk_frozen BK196.out 0
          have hfz42_1 := blk_frozen BK196.out 1
          have hfz42_2 := blk_frozen BK196.out 2
          have hfz42_3 := blk_frozen BK196.out 3
          have hfz42_4 := blk_frozen BK196.out 4
          have hfz42_5 := blk_frozen BK196.out 5
          have hcz43_0 := bc BK202.out 0 (.int .i64 t199) rfl
          have hcz43_1 := bc BK202.out 1 (.int .i64 t200) rfl
          have hfz43_0 := blk_frozen BK202.out 0
          have hfz43_1 := blk_frozen BK202.out 1
          ((try go_wp2_with (first | ((with_reducible refine gate_load (t := 56) rfl ?_); refine load_row3 (t := 56) (g := gb196) ?hg BK196.out ?ho ?hb Try.underlying56 rfl ?hs ?_; (case hg => rfl); (case ho => refine ⟨_, rfl, ?_⟩; first | (with_reducible rfl) | (go_simp; done)); (case hb => (with_reducible repeat (first | refine blk_drewN ?_ _ | refine blk_drew ?_ | refine blk_alloc ?_ _)); with_reducible exact BK196.out); (case hs => kernel_rfl)))); iterate 4 (try ((with_reducible refine is_region_ ?_); go_quiet (first | ((with_reducible refine gate_load (t := 56) rfl ?_); refine load_row3 (t := 56) (g := gb196) ?hg BK196.out ?ho ?hb Try.underlying56 rfl ?hs ?_; (case hg => rfl); (case ho => refine ⟨_, rfl, ?_⟩; first | (with_reducible rfl) | (go_simp; done)); (case hb => (with_reducible repeat (first | refine blk_drewN ?_ _ | refine blk_drew ?_ | refine blk_alloc ?_ _)); with_reducible exact BK196.out); (case hs => kernel_rfl))); (try go_wp2))))
          go_roundg k2
          case measure => have := HJ6.out; have := HK2.out; omega
          case rel => exact ⟨(true), (wrap64 (x10_2 + 1)), (by first | rfl | (simp; done) | (simp [*]; done)), (by first | rfl | (simp; done) | (simp [*]; done)), H', ⟨by have := HJ6.out; have := HK2.out; omega⟩, ⟨by (with_reducible repeat (first | refine blk_drewN ?_ _ | refine blk_drew ?_ | refine blk_alloc ?_ _)); exact BK196.out⟩, ⟨by (with_reducible repeat (first | refine blk_drewN ?_ _ | refine blk_drew ?_ | refine blk_alloc ?_ _)); exact BK202.out⟩, ⟨by repeat (first | (with_reducible first | exact HB.out | apply below_alloc | apply pw_below_drewN | apply below_drew1 | refine below_set ?_ GE196.out | refine below_set ?_ GE202.out) | exact HB.out)⟩⟩
      · replace c40 := Bool.eq_false_iff.mpr c40
        subst c40
        have H1 : (if t199 = 1 then (if 0 ≤ x10_2 then (if ((rd_T66 l0_4 x10_2).f0) = t200 then (newsreellaw43_PickWhen.l0 k2 a1 (decide (((rd_T66 l0_4 x10_2).f3) ≤ a1)) (wrap64 (x10_2 + 1)) a0_0 a0_1 a0_2 a0_3 l0_4 l0_5 t199 t200) else (newsreellaw43_PickWhen.l0 k2 a1 false (wrap64 (x10_2 + 1)) a0_0 a0_1 a0_2 a0_3 l0_4 l0_5 t199 t200)) else (none)) else (newsreellaw43_PickWhen.l0 k2 a1 false (wrap64 (x10_2 + 1)) a0_0 a0_1 a0_2 a0_3 l0_4 l0_5 t199 t200)) = some r := by rw [if_neg (show ¬ (false = true) by decide)] at H; exact H
        clear H
        have H := H1
        clear H1
        by_cases c44 : t199 = 1
        · rw [if_pos c44] at H
          have c44b0 : (t199 == 1) = true := beq_iff_eq.mpr c44
          have c44b1 : (t199 != 1) = false := bne_eq_false_iff_eq.mpr c44
          clear c44
          by_cases c45 : 0 ≤ x10_2
          · rw [if_pos c45] at H
            have c45b0 : decide (0 ≤ x10_2) = true := decide_eq_true c45
            clear c45
            by_cases c46 : ((rd_T66 l0_4 x10_2).f0) = t200
            · rw [if_pos c46] at H
              have c46b0 : (((rd_T66 l0_4 x10_2).f0) == t200) = true := beq_iff_eq.mpr c46
              have c46b1 : (((rd_T66 l0_4 x10_2).f0) != t200) = false := bne_eq_false_iff_eq.mpr c46
              clear c46
              as_aux_lemma =>
                have H' := Aside0.mk H
                clear H
                have hnb47 := NB196_202.out
                have hnc47 := NB202_196.out
                have hcz48_0 := bc BK196.out 0 (.int .i64 a0_0) rfl
                have hcz48_1 := bc BK196.out 1 (.int .i64 a0_1) rfl
                have hcz48_2 := bc BK196.out 2 (.int .i64 a0_2) rfl
                have hcz48_3 := bc BK196.out 3 (.int .i64 a0_3) rfl
                have hcz48_4 := bc BK196.out 4 (.slice A0_4 l0_4.length c0_4) rfl
                have hcz48_5 := bc BK196.out 5 (.slice A0_5 l0_5.length c0_5) rfl
                have hfz48_0 := blk_frozen BK196.out 0
                have hfz48_1 := blk_frozen BK196.out 1
                have hfz48_2 := blk_frozen BK196.out 2
                have hfz48_3 := blk_frozen BK196.out 3
                have hfz48_4 := blk_frozen BK196.out 4
                have hfz48_5 := blk_frozen BK196.out 5
                have hcz49_0 := bc BK202.out 0 (.int .i64 t199) rfl
                have hcz49_1 := bc BK202.out 1 (.int .i64 t200) rfl
                have hfz49_0 := blk_frozen BK202.out 0
                have hfz49_1 := blk_frozen BK202.out 1
                have p209 : 0 ≤ (x10_2 : Int) := of_decide_eq_true (by first | (with_reducible assumption) | assumption)
                have q209 : x10_2 < (l0_4.length : Int) := of_decide_eq_true (by first | (with_reducible assumption) | assumption)
                obtain ⟨ad209, e209, hx209_0, hx209_1, hx209_2, hx209_3, hx209_4⟩ := at_T66 HR0_4.out x10_2 p209 q209
                cases e209
                replace hx209_0 := (HB.out.cell (World.block_lt_of_cell? w _ hx209_0)).trans hx209_0
                replace hx209_1 := (HB.out.cell (World.block_lt_of_cell? w _ hx209_1)).trans hx209_1
                replace hx209_2 := (HB.out.cell (World.block_lt_of_cell? w _ hx209_2)).trans hx209_2
                replace hx209_3 := (HB.out.cell (World.block_lt_of_cell? w _ hx209_3)).trans hx209_3
                replace hx209_4 := (HB.out.cell (World.block_lt_of_cell? w _ hx209_4)).trans hx209_4
                replace p209 := eq_true p209
                replace q209 := eq_true q209
                have p210 : 0 ≤ (x10_2 : Int) := of_decide_eq_true (by first | (with_reducible assumption) | assumption)
                have q210 : x10_2 < (l0_4.length : Int) := of_decide_eq_true (by first | (with_reducible assumption) | assumption)
                obtain ⟨ad210, e210, hx210_0, hx210_1, hx210_2, hx210_3, hx210_4⟩ := at_T66 HR0_4.out x10_2 p210 q210
                obtain rfl : ad209 = ad210 := (by injection e210)
                replace hx210_0 := (HB.out.cell (World.block_lt_of_cell? w _ hx210_0)).trans hx210_0
                replace hx210_1 := (HB.out.cell (World.block_lt_of_cell? w _ hx210_1)).trans hx210_1
                replace hx210_2 := (HB.out.cell (World.block_lt_of_cell? w _ hx210_2)).trans hx210_2
                replace hx210_3 := (HB.out.cell (World.block_lt_of_cell? w _ hx210_3)).trans hx210_3
                replace hx210_4 := (HB.out.cell (World.block_lt_of_cell? w _ hx210_4)).trans hx210_4
                replace p210 := eq_true p210
                replace q210 := eq_true q210
                ((try go_wp2_with (first | ((with_reducible refine gate_load (t := 66) rfl ?_); refine load_at2 (t := 66) ?hg ?ho (c0 := _) (cs := [_, _, _, _]) Try.underlying66 rfl (by kernel_rfl) hx209_0 ⟨hx209_1, hx209_2, hx209_3, hx209_4, trivial⟩ ?_; (case hg => rfl); (case ho => refine ⟨_, rfl, ?_⟩; first | (with_reducible rfl) | (go_simp; done))) | ((with_reducible refine gate_load (t := 66) rfl ?_); refine load_at2 (t := 66) ?hg ?ho (c0 := _) (cs := [_, _, _, _]) Try.underlying66 rfl (by kernel_rfl) hx210_0 ⟨hx210_1, hx210_2, hx210_3, hx210_4, trivial⟩ ?_; (case hg => rfl); (case ho => refine ⟨_, rfl, ?_⟩; first | (with_reducible rfl) | (go_simp; done))) | ((with_reducible refine gate_load (t := 56) rfl ?_); refine load_row3 (t := 56) (g := gb196) ?hg BK196.out ?ho ?hb Try.underlying56 rfl ?hs ?_; (case hg => rfl); (case ho => refine ⟨_, rfl, ?_⟩; first | (with_reducible rfl) | (go_simp; done)); (case hb => (with_reducible repeat (first | refine blk_drewN ?_ _ | refine blk_drew ?_ | refine blk_alloc ?_ _)); with_reducible exact BK196.out); (case hs => kernel_rfl)))); iterate 4 (try ((with_reducible refine is_region_ ?_); go_quiet (first | ((with_reducible refine gate_load (t := 66) rfl ?_); refine load_at2 (t := 66) ?hg ?ho (c0 := _) (cs := [_, _, _, _]) Try.underlying66 rfl (by kernel_rfl) hx209_0 ⟨hx209_1, hx209_2, hx209_3, hx209_4, trivial⟩ ?_; (case hg => rfl); (case ho => refine ⟨_, rfl, ?_⟩; first | (with_reducible rfl) | (go_simp; done))) | ((with_reducible refine gate_load (t := 66) rfl ?_); refine load_at2 (t := 66) ?hg ?ho (c0 := _) (cs := [_, _, _, _]) Try.underlying66 rfl (by kernel_rfl) hx210_0 ⟨hx210_1, hx210_2, hx210_3, hx210_4, trivial⟩ ?_; (case hg => rfl); (case ho => refine ⟨_, rfl, ?_⟩; first | (with_reducible rfl) | (go_simp; done))) | ((with_reducible refine gate_load (t := 56) rfl ?_); refine load_row3 (t := 56) (g := gb196) ?hg BK196.out ?ho ?hb Try.underlying56 rfl ?hs ?_; (case hg => rfl); (case ho => refine ⟨_, rfl, ?_⟩; first | (with_reducible rfl) | (go_simp; done)); (case hb => (with_reducible repeat (first | refine blk_drewN ?_ _ | refine blk_drew ?_ | refine blk_alloc ?_ _)); with_reducible exact BK196.out); (case hs => kernel_rfl))); (try go_wp2))))
                go_roundg k2
                case measure => have := HJ6.out; have := HK2.out; omega
                case rel => exact ⟨(decide (((rd_T66 l0_4 x10_2).f3) ≤ a1)), (wrap64 (x10_2 + 1)), (by first | rfl | (simp; done) | (simp [*]; done)), (by first | rfl | (simp; done) | (simp [*]; done)), H', ⟨by have := HJ6.out; have := HK2.out; omega⟩, ⟨by (with_reducible repeat (first | refine blk_drewN ?_ _ | refine blk_drew ?_ | refine blk_alloc ?_ _)); exact BK196.out⟩, ⟨by (with_reducible repeat (first | refine blk_drewN ?_ _ | refine blk_drew ?_ | refine blk_alloc ?_ _)); exact BK202.out⟩, ⟨by repeat (first | (with_reducible first | exact HB.out | apply below_alloc | apply pw_below_drewN | apply below_drew1 | refine below_set ?_ GE196.out | refine below_set ?_ GE202.out) | exact HB.out)⟩⟩
            · rw [if_neg c46] at H
              have c46b0 : (((rd_T66 l0_4 x10_2).f0) == t200) = false := beq_eq_false_iff_ne.mpr c46
              have c46b1 : (((rd_T66 l0_4 x10_2).f0) != t200) = true := bne_iff_ne.mpr c46
              as_aux_lemma =>
                have H' := Aside0.mk H
                clear H
                have hnb50 := NB196_202.out
                have hnc50 := NB202_196.out
                have hcz51_0 := bc BK196.out 0 (.int .i64 a0_0) rfl
                have hcz51_1 := bc BK196.out 1 (.int .i64 a0_1) rfl
                have hcz51_2 := bc BK196.out 2 (.int .i64 a0_2) rfl
                have hcz51_3 := bc BK196.out 3 (.int .i64 a0_3) rfl
                have hcz51_4 := bc BK196.out 4 (.slice A0_4 l0_4.length c0_4) rfl
                have hcz51_5 := bc BK196.out 5 (.slice A0_5 l0_5.length c0_5) rfl
                have hfz51_0 := blk_frozen BK196.out 0
                have hfz51_1 := blk_frozen BK196.out 1
                have hfz51_2 := blk_frozen BK196.out 2
                have hfz51_3 := blk_frozen BK196.out 3
                have hfz51_4 := blk_frozen BK196.out 4
                have hfz51_5 := blk_frozen BK196.out 5
                have hcz52_0 := bc BK202.out 0 (.int .i64 t199) rfl
                have hcz52_1 := bc BK202.out 1 (.int .i64 t200) rfl
                have hfz52_0 := blk_frozen BK202.out 0
                have hfz52_1 := blk_frozen BK202.out 1
                have p209 : 0 ≤ (x10_2 : Int) := of_decide_eq_true (by first | (with_reducible assumption) | assumption)
                have q209 : x10_2 < (l0_4.length : Int) := of_decide_eq_true (by first | (with_reducible assumption) | assumption)
                obtain ⟨ad209, e209, hx209_0, hx209_1, hx209_2, hx209_3, hx209_4⟩ := at_T66 HR0_4.out x10_2 p209 q209
                cases e209
                replace hx209_0 := (HB.out.cell (World.block_lt_of_cell? w _ hx209_0)).trans hx209_0
                replace hx209_1 := (HB.out.cell (World.block_lt_of_cell? w _ hx209_1)).trans hx209_1
                replace hx209_2 := (HB.out.cell (World.block_lt_of_cell? w _ hx209_2)).trans hx209_2
                replace hx209_3 := (HB.out.cell (World.block_lt_of_cell? w _ hx209_3)).trans hx209_3
                replace hx209_4 := (HB.out.cell (World.block_lt_of_cell? w _ hx209_4)).trans hx209_4
                replace p209 := eq_true p209
                replace q209 := eq_true q209
                ((try go_wp2_with (first | ((with_reducible refine gate_load (t := 66) rfl ?_); refine load_at2 (t := 66) ?hg ?ho (c0 := _) (cs := [_, _, _, _]) Try.underlying66 rfl (by kernel_rfl) hx209_0 ⟨hx209_1, hx209_2, hx209_3, hx209_4, trivial⟩ ?_; (case hg => rfl); (case ho => refine ⟨_, rfl, ?_⟩; first | (with_reducible rfl) | (go_simp; done))) | ((with_reducible refine gate_load (t := 56) rfl ?_); refine load_row3 (t := 56) (g := gb196) ?hg BK196.out ?ho ?hb Try.underlying56 rfl ?hs ?_; (case hg => rfl); (case ho => refine ⟨_, rfl, ?_⟩; first | (with_reducible rfl) | (go_simp; done)); (case hb => (with_reducible repeat (first | refine blk_drewN ?_ _ | refine blk_drew ?_ | refine blk_alloc ?_ _)); with_reducible exact BK196.out); (case hs => kernel_rfl)))); iterate 4 (try ((with_reducible refine is_region_ ?_); go_quiet (first | ((with_reducible refine gate_load (t := 66) rfl ?_); refine load_at2 (t := 66) ?hg ?ho (c0 := _) (cs := [_, _, _, _]) Try.underlying66 rfl (by kernel_rfl) hx209_0 ⟨hx209_1, hx209_2, hx209_3, hx209_4, trivial⟩ ?_; (case hg => rfl); (case ho => refine ⟨_, rfl, ?_⟩; first | (with_reducible rfl) | (go_simp; done))) | ((with_reducible refine gate_load (t := 56) rfl ?_); refine load_row3 (t := 56) (g := gb196) ?hg BK196.out ?ho ?hb Try.underlying56 rfl ?hs ?_; (case hg => rfl); (case ho => refine ⟨_, rfl, ?_⟩; first | (with_reducible rfl) | (go_simp; done)); (case hb => (with_reducible repeat (first | refine blk_drewN ?_ _ | refine blk_drew ?_ | refine blk_alloc ?_ _)); with_reducible exact BK196.out); (case hs => kernel_rfl))); (try go_wp2))))
                go_roundg k2
                case measure => have := HJ6.out; have := HK2.out; omega
                case rel => exact ⟨(false), (wrap64 (x10_2 + 1)), (by first | rfl | (simp; done) | (simp [*]; done)), (by first | rfl | (simp; done) | (simp [*]; done)), H', ⟨by have := HJ6.out; have := HK2.out; omega⟩, ⟨by (with_reducible repeat (first | refine blk_drewN ?_ _ | refine blk_drew ?_ | refine blk_alloc ?_ _)); exact BK196.out⟩, ⟨by (with_reducible repeat (first | refine blk_drewN ?_ _ | refine blk_drew ?_ | refine blk_alloc ?_ _)); exact BK202.out⟩, ⟨by repeat (first | (with_reducible first | exact HB.out | apply below_alloc | apply pw_below_drewN | apply below_drew1 | refine below_set ?_ GE196.out | refine below_set ?_ GE202.out) | exact HB.out)⟩⟩
          · rw [if_neg c45] at H
            exact absurd H (by simp)
        · rw [if_neg c44] at H
          have c44b0 : (t199 == 1) = false := beq_eq_false_iff_ne.mpr c44
          have c44b1 : (t199 != 1) = true := bne_iff_ne.mpr c44
          as_aux_lemma =>
            have H' := Aside0.mk H
            clear H
            have hnb53 := NB196_202.out
            have hnc53 := NB202_196.out
            have hcz54_0 := bc BK196.out 0 (.int .i64 a0_0) rfl
            have hcz54_1 := bc BK196.out 1 (.int .i64 a0_1) rfl
            have hcz54_2 := bc BK196.out 2 (.int .i64 a0_2) rfl
            have hcz54_3 := bc BK196.out 3 (.int .i64 a0_3) rfl
            have hcz54_4 := bc BK196.out 4 (.slice A0_4 l0_4.length c0_4) rfl
            have hcz54_5 := bc BK196.out 5 (.slice A0_5 l0_5.length c0_5) rfl
            have hfz54_0 := blk_frozen BK196.out 0
            have hfz54_1 := blk_frozen BK196.out 1
            have hfz54_2 := blk_frozen BK196.out 2
            have hfz54_3 := blk_frozen BK196.out 3
            have hfz54_4 := blk_frozen BK196.out 4
            have hfz54_5 := blk_frozen BK196.out 5
            have hcz55_0 := bc BK202.out 0 (.int .i64 t199) rfl
            have hcz55_1 := bc BK202.out 1 (.int .i64 t200) rfl
            have hfz55_0 := blk_frozen BK202.out 0
            have hfz55_1 := blk_frozen BK202.out 1
            ((try go_wp2_with (first | ((with_reducible refine gate_load (t := 56) rfl ?_); refine load_row3 (t := 56) (g := gb196) ?hg BK196.out ?ho ?hb Try.underlying56 rfl ?hs ?_; (case hg => rfl); (case ho => refine ⟨_, rfl, ?_⟩; first | (with_reducible rfl) | (go_simp; done)); (case hb => (with_reducible repeat (first | refine blk_drewN ?_ _ | refine blk_drew ?_ | refine blk_alloc ?_ _)); with_reducible exact BK196.out); (case hs => kernel_rfl)))); iterate 4 (try ((with_reducible refine is_region_ ?_); go_quiet (first | ((with_reducible refine gate_load (t := 56) rfl ?_); refine load_row3 (t := 56) (g := gb196) ?hg BK196.out ?ho ?hb Try.underlying56 rfl ?hs ?_; (case hg => rfl); (case ho => refine ⟨_, rfl, ?_⟩; first | (with_reducible rfl) | (go_simp; done)); (case hb => (with_reducible repeat (first | refine blk_drewN ?_ _ | refine blk_drew ?_ | refine blk_alloc ?_ _)); with_reducible exact BK196.out); (case hs => kernel_rfl))); (try go_wp2))))
            go_roundg k2
            case measure => have := HJ6.out; have := HK2.out; omega
            case rel => exact ⟨(false), (wrap64 (x10_2 + 1)), (by first | rfl | (simp; done) | (simp [*]; done)), (by first | rfl | (simp; done) | (simp [*]; done)), H', ⟨by have := HJ6.out; have := HK2.out; omega⟩, ⟨by (with_reducible repeat (first | refine blk_drewN ?_ _ | refine blk_drew ?_ | refine blk_alloc ?_ _)); exact BK196.out⟩, ⟨by (with_reducible repeat (first | refine blk_drewN ?_ _ | refine blk_drew ?_ | refine blk_alloc ?_ _)); exact BK202.out⟩, ⟨by repeat (first | (with_reducible first | exact HB.out | apply below_alloc | apply pw_below_drewN | apply below_drew1 | refine below_set ?_ GE196.out | refine below_set ?_ GE202.out) | exact HB.out)⟩⟩
  rw [if_neg c21] at H
  have c21b0 : decide (x10_2 < (l0_4.length : Int)) = false := decide_eq_false c21
  clear c21
  have H' := Aside0.mk H
  clear H
  have hnb56 := NB196_202.out
  have hnc56 := NB202_196.out
  have hcz57_0 := bc BK196.out 0 (.int .i64 a0_0) rfl
  have hcz57_1 := bc BK196.out 1 (.int .i64 a0_1) rfl
  have hcz57_2 := bc BK196.out 2 (.int .i64 a0_2) rfl
  have hcz57_3 := bc BK196.out 3 (.int .i64 a0_3) rfl
  have hcz57_4 := bc BK196.out 4 (.slice A0_4 l0_4.length c0_4) rfl
  have hcz57_5 := bc BK196.out 5 (.slice A0_5 l0_5.length c0_5) rfl
  have hfz57_0 := blk_frozen BK196.out 0
  have hfz57_1 := blk_frozen BK196.out 1
  have hfz57_2 := blk_frozen BK196.out 2
  have hfz57_3 := blk_frozen BK196.out 3
  have hfz57_4 := blk_frozen BK196.out 4
  have hfz57_5 := blk_frozen BK196.out 5
  go_wp2
  go_loopg [9, 11] k2 (fun kq v9 v11 w' => ∃ (x9_3 : Bool) (x11_3 : Int), v9 = .bool x9_3 ∧ v11 = .int .i64 x11_3 ∧ Aside0 (newsreellaw43_PickWhen.l1 kq a1 x9_3 x11_3 a0_0 a0_1 a0_2 a0_3 l0_4 l0_5 t199 t200 = some r) ∧ Aside0 (kq ≤ k2) ∧ Aside0 (w'.heap[gb196]? = some (.cells #[.int .i64 a0_0, .int .i64 a0_1, .int .i64 a0_2, .int .i64 a0_3, (.slice A0_4 l0_4.length c0_4), (.slice A0_5 l0_5.length c0_5)] 56 (0, 0))) ∧ Aside0 (w'.heap[gb202]? = some (.cells #[.int .i64 t199, .int .i64 t200] 59 (0, 0))) ∧ Aside0 (Below w.heap.size w w'))
  case atStart => exact ⟨(x9_2), (0), (by first | rfl | (simp; done) | (simp [*]; done)), (by first | rfl | (simp; done) | (simp [*]; done)), H', ⟨Nat.le_refl _⟩, ⟨by (with_reducible repeat (first | refine blk_drewN ?_ _ | refine blk_drew ?_ | refine blk_alloc ?_ _)); exact BK196.out⟩, ⟨by (with_reducible repeat (first | refine blk_drewN ?_ _ | refine blk_drew ?_ | refine blk_alloc ?_ _)); exact BK202.out⟩, ⟨by repeat (first | (with_reducible first | exact HB.out | apply below_alloc | apply pw_below_drewN | apply below_drew1 | refine below_set ?_ GE196.out | refine below_set ?_ GE202.out) | exact HB.out)⟩⟩
  clear H'
  try clear c1
  try clear c2
  try clear p2
  try clear q2
  try clear hx2
  try clear c3
  try clear c4
  try clear c5
  try clear p6
  try clear c9
  try clear c14
  try clear c18
  try clear c19
  try clear c20
  try clear p20
  try clear q20
  try clear hx20
  try clear c21
  try clear c21b0
  try clear p21
  try clear q21
  try clear hx21
  try clear c22
  try clear c22b0
  try clear c22b1
  try clear c23
  try clear c23b0
  try clear c24
  try clear c24b0
  try clear c25
  try clear c26
  try clear c29
  try clear c29b0
  try clear c29b1
  try clear c30
  try clear c30b0
  try clear c30b1
  try clear c31
  try clear c34
  try clear c37
  try clear c40
  try clear c41
  try clear c44
  try clear c44b0
  try clear c44b1
  try clear c45
  try clear c45b0
  try clear c46
  try clear c46b0
  try clear c46b1
  try clear c47
  try clear c50
  try clear c53
  try clear c56
  try clear hcz11_0
  try clear hcz11_1
  try clear hcz11_2
  try clear hcz11_3
  try clear hcz11_4
  try clear hcz11_5
  try clear hcz15_0
  try clear hcz15_1
  try clear hcz16_0
  try clear hcz16_1
  try clear hcz16_2
  try clear hcz16_3
  try clear hcz16_4
  try clear hcz16_5
  try clear hcz27_0
  try clear hcz27_1
  try clear hcz27_2
  try clear hcz27_3
  try clear hcz27_4
  try clear hcz27_5
  try clear hcz28_0
  try clear hcz28_1
  try clear hcz32_0
  try clear hcz32_1
  try clear hcz32_2
  try clear hcz32_3
  try clear hcz32_4
  try clear hcz32_5
  try clear hcz33_0
  try clear hcz33_1
  try clear hcz35_0
  try clear hcz35_1
  try clear hcz35_2
  try clear hcz35_3
  try clear hcz35_4
  try clear hcz35_5
  try clear hcz36_0
  try clear hcz36_1
  try clear hcz38_0
  try clear hcz38_1
  try clear hcz38_2
  try clear hcz38_3
  try clear hcz38_4
  try clear hcz38_5
  try clear hcz39_0
  try clear hcz39_1
  try clear hcz42_0
  try clear hcz42_1
  try clear hcz42_2
  try clear hcz42_3
  try clear hcz42_4
  try clear hcz42_5
  try clear hcz43_0
  try clear hcz43_1
  try clear hcz48_0
  try clear hcz48_1
  try clear hcz48_2
  try clear hcz48_3
  try clear hcz48_4
  try clear hcz48_5
  try clear hcz49_0
  try clear hcz49_1
  try clear hcz51_0
  try clear hcz51_1
  try clear hcz51_2
  try clear hcz51_3
  try clear hcz51_4
  try clear hcz51_5
  try clear hcz52_0
  try clear hcz52_1
  try clear hcz54_0
  try clear hcz54_1
  try clear hcz54_2
  try clear hcz54_3
  try clear hcz54_4
  try clear hcz54_5
  try clear hcz55_0
  try clear hcz55_1
  try clear hcz57_0
  try clear hcz57_1
  try clear hcz57_2
  try clear hcz57_3
  try clear hcz57_4
  try clear hcz57_5
  try clear hcz9_0
  try clear hcz9_1
  try clear hcz9_2
  try clear hcz9_3
  try clear hcz9_4
  try clear hcz9_5
  try clear hfz11_0
  try clear hfz11_1
  try clear hfz11_2
  try clear hfz11_3
  try clear hfz11_4
  try clear hfz11_5
  try clear hfz15_0
  try clear hfz15_1
  try clear hfz16_0
  try clear hfz16_1
  try clear hfz16_2
  try clear hfz16_3
  try clear hfz16_4
  try clear hfz16_5
  try clear hfz27_0
  try clear hfz27_1
  try clear hfz27_2
  try clear hfz27_3
  try clear hfz27_4
  try clear hfz27_5
  try clear hfz28_0
  try clear hfz28_1
  try clear hfz32_0
  try clear hfz32_1
  try clear hfz32_2
  try clear hfz32_3
  try clear hfz32_4
  try clear hfz32_5
  try clear hfz33_0
  try clear hfz33_1
  try clear hfz35_0
  try clear hfz35_1
  try clear hfz35_2
  try clear hfz35_3
  try clear hfz35_4
  try clear hfz35_5
  try clear hfz36_0
  try clear hfz36_1
  try clear hfz38_0
  try clear hfz38_1
  try clear hfz38_2
  try clear hfz38_3
  try clear hfz38_4
  try clear hfz38_5
  try clear hfz39_0
  try clear hfz39_1
  try clear hfz42_0
  try clear hfz42_1
  try clear hfz42_2
  try clear hfz42_3
  try clear hfz42_4
  try clear hfz42_5
  try clear hfz43_0
  try clear hfz43_1
  try clear hfz48_0
  try clear hfz48_1
  try clear hfz48_2
  try clear hfz48_3
  try clear hfz48_4
  try clear hfz48_5
  try clear hfz49_0
  try clear hfz49_1
  try clear hfz51_0
  try clear hfz51_1
  try clear hfz51_2
  try clear hfz51_3
  try clear hfz51_4
  try clear hfz51_5
  try clear hfz52_0
  try clear hfz52_1
  try clear hfz54_0
  try clear hfz54_1
  try clear hfz54_2
  try clear hfz54_3
  try clear hfz54_4
  try clear hfz54_5
  try clear hfz55_0
  try clear hfz55_1
  try clear hfz57_0
  try clear hfz57_1
  try clear hfz57_2
  try clear hfz57_3
  try clear hfz57_4
  try clear hfz57_5
  try clear hfz9_0
  try clear hfz9_1
  try clear hfz9_2
  try clear hfz9_3
  try clear hfz9_4
  try clear hfz9_5
  try clear hx206_0
  try clear hx206_1
  try clear hx206_2
  try clear hx206_3
  try clear hx206_4
  try clear hx207_0
  try clear hx207_1
  try clear hx207_2
  try clear hx207_3
  try clear hx207_4
  try clear hx208_0
  try clear hx208_1
  try clear hx208_2
  try clear hx208_3
  try clear hx208_4
  try clear hx209_0
  try clear hx209_1
  try clear hx209_2
  try clear hx209_3
  try clear hx209_4
  try clear hx210_0
  try clear hx210_1
  try clear hx210_2
  try clear hx210_3
  try clear hx210_4
  try clear p2
  try clear p206
  try clear p207
  try clear p208
  try clear p209
  try clear p210
  try clear q206
  try clear q207
  try clear q208
  try clear q209
  try clear q210
  obtain ⟨x9_3, x11_3, rfl, rfl, HA, HK3, BK196, BK202, HB⟩ := hrel
  rcases gk with _ | k3
  · exact absurd HA.out (by simp [newsreellaw43_PickWhen.l1])
  have H := HA.out
  clear HA
  simp only [newsreellaw43_PickWhen.l1] at H
  by_cases c58 : x11_3 < (l0_5.length : Int)
  rotate_left
  · rw [if_neg c58] at H
    have c58b0 : decide (x11_3 < (l0_5.length : Int)) = false := decide_eq_false c58
    clear c58
    by_cases c110 : x9_3 = true
    · subst c110
      have H1 : ((newsreellaw43_awake.f k3).bind fun t214 => (some t214)) = some r := by rw [if_pos rfl] at H; exact H
      clear H
      have H := H1
      clear H1
      replace H := Option.bind_eq_some_iff.mp H
      obtain ⟨t214, A1110, H⟩ := H
      replace H : (some t214) = some r := H
      have A111 := Aside0.mk A1110
      clear A1110
      as_aux_lemma =>
        obtain rfl := Option.some.inj H
        have hnb112 := NB196_202.out
        have hnc112 := NB202_196.out
        have hcz113_0 := bc BK196.out 0 (.int .i64 a0_0) rfl
        have hcz113_1 := bc BK196.out 1 (.int .i64 a0_1) rfl
        have hcz113_2 := bc BK196.out 2 (.int .i64 a0_2) rfl
        have hcz113_3 := bc BK196.out 3 (.int .i64 a0_3) rfl
        have hcz113_4 := bc BK196.out 4 (.slice A0_4 l0_4.length c0_4) rfl
        have hcz113_5 := bc BK196.out 5 (.slice A0_5 l0_5.length c0_5) rfl
        have hfz113_0 := blk_frozen BK196.out 0
        have hfz113_1 := blk_frozen BK196.out 1
        have hfz113_2 := blk_frozen BK196.out 2
        have hfz113_3 := blk_frozen BK196.out 3
        have hfz113_4 := blk_frozen BK196.out 4
        have hfz113_5 := blk_frozen BK196.out 5
        ((try go_wp2_with (first | ((with_reducible refine gate_load (t := 56) rfl ?_); refine load_row3 (t := 56) (g := gb196) ?hg BK196.out ?ho ?hb Try.underlying56 rfl ?hs ?_; (case hg => rfl); (case ho => refine ⟨_, rfl, ?_⟩; first | (with_reducible rfl) | (go_simp; done)); (case hb => (with_reducible repeat (first | refine blk_drewN ?_ _ | refine blk_drew ?_ | refine blk_alloc ?_ _)); with_reducible exact BK196.out); (case hs => kernel_rfl)) | (go_at_call 38; (with_reducible refine (newsreellaw43_awake.calls k3  t214 _ A111.out).mono ?_); rintro e w114 ⟨rfl, hb⟩; have n0_ := Aside0.mk (blk_below (blk_y BK196.out) hb); have n1_ := Aside0.mk (blk_below (blk_y BK202.out) hb); have n2_ := Aside0.mk (below_step (below_y HB.out) hb); clear BK196; clear BK202; clear HB; have BK196 := n0_; have BK202 := n1_; have HB := n2_; clear n0_ n1_ n2_; (try clear hb); (try clear hb2); (try clear hk); (try clear hi)))); iterate 4 (try ((with_reducible refine is_region_ ?_); go_quiet (first | ((with_reducible refine gate_load (t := 56) rfl ?_); refine load_row3 (t := 56) (g := gb196) ?hg BK196.out ?ho ?hb Try.underlying56 rfl ?hs ?_; (case hg => rfl); (case ho => refine ⟨_, rfl, ?_⟩; first | (with_reducible rfl) | (go_simp; done)); (case hb => (with_reducible repeat (first | refine blk_drewN ?_ _ | refine blk_drew ?_ | refine blk_alloc ?_ _)); with_reducible exact BK196.out); (case hs => kernel_rfl)) | (go_at_call 38; (with_reducible refine (newsreellaw43_awake.calls k3  t214 _ A111.out).mono ?_); rintro e w114 ⟨rfl, hb⟩; have n0_ := Aside0.mk (blk_below (blk_y BK196.out) hb); have n1_ := Aside0.mk (blk_below (blk_y BK202.out) hb); have n2_ := Aside0.mk (below_step (below_y HB.out) hb); clear BK196; clear BK202; clear HB; have BK196 := n0_; have BK202 := n1_; have HB := n2_; clear n0_ n1_ n2_; (try clear hb); (try clear hb2); (try clear hk); (try clear hi))); (try go_wp2))))
        go_ret
        exact ⟨by first | rfl | (simp [errW_none, errW_some] <;> rfl) | (simp [*, errW_none, errW_some] <;> rfl), by repeat (first | (with_reducible first | exact HB.out | apply below_alloc | apply pw_below_drewN | apply below_drew1 | refine below_set ?_ GE196.out | refine below_set ?_ GE202.out) | exact HB.out)⟩
    · replace c110 := Bool.eq_false_iff.mpr c110
      subst c110
      have H1 : (some false) = some r := by rw [if_neg (show ¬ (false = true) by decide)] at H; exact H
      clear H
      have H := H1
      clear H1
      as_aux_lemma =>
        cases (Option.some.inj H).trans ht_
  rw [if_pos c58] at H
  have c58b0 : decide (x11_3 < (l0_5.length : Int)) = true := decide_eq_true c58
  clear c58
  by_cases c59 : 0 ≤ x11_3
  rotate_left
  · rw [if_neg c59] at H
    exact absurd H (by simp)
  rw [if_pos c59] at H
  have c59b0 : decide (0 ≤ x11_3) = true := decide_eq_true c59
  clear c59
  by_cases c60 : x9_3 = true
  · subst c60
    have H1 : (newsreellaw43_PickWhen.l1 k3 a1 true (wrap64 (x11_3 + 1)) a0_0 a0_1 a0_2 a0_3 l0_4 l0_5 t199 t200) = some r := by rw [if_pos rfl] at H; exact H
    clear H
    have H := H1
    clear H1
    as_aux_lemma =>
      have H' := Aside0.mk H
      clear H
      have hnb61 := NB196_202.out
      have hnc61 := NB202_196.out
      have hcz62_0 := bc BK196.out 0 (.int .i64 a0_0) rfl
      have hcz62_1 := bc BK196.out 1 (.int .i64 a0_1) rfl
      have hcz62_2 := bc BK196.out 2 (.int .i64 a0_2) rfl
      have hcz62_3 := bc BK196.out 3 (.int .i64 a0_3) rfl
      have hcz62_4 := bc BK196.out 4 (.slice A0_4 l0_4.length c0_4) rfl
      have hcz62_5 := bc BK196.out 5 (.slice A0_5 l0_5.length c0_5) rfl
      have hfz62_0 := blk_frozen BK196.out 0
      have hfz62_1 := blk_frozen BK196.out 1
      have hfz62_2 := blk_frozen BK196.out 2
      have hfz62_3 := blk_frozen BK196.out 3
      have hfz62_4 := blk_frozen BK196.out 4
      have hfz62_5 := blk_frozen BK196.out 5
      have p211 : 0 ≤ (x11_3 : Int) := of_decide_eq_true (by first | (with_reducible assumption) | assumption)
      have q211 : x11_3 < (l0_5.length : Int) := of_decide_eq_true (by first | (with_reducible assumption) | assumption)
      obtain ⟨ad211, e211, hx211_0, hx211_1, hx211_2, hx211_3, hx211_4, hx211_5, hx211_6, hx211_7, hx211_8, hx211_9, hx211_10, hx211_11, hx211_12, hx211_13, hx211_14, hx211_15, hx211_16, hx211_17, hx211_18, hx211_19⟩ := at_T68 HR0_5.out x11_3 p211 q211
      cases e211
      replace hx211_0 := (HB.out.cell (World.block_lt_of_cell? w _ hx211_0)).trans hx211_0
      replace hx211_1 := (HB.out.cell (World.block_lt_of_cell? w _ hx211_1)).trans hx211_1
      replace hx211_2 := (HB.out.cell (World.block_lt_of_cell? w _ hx211_2)).trans hx211_2
      replace hx211_3 := (HB.out.cell (World.block_lt_of_cell? w _ hx211_3)).trans hx211_3
      replace hx211_4 := (HB.out.cell (World.block_lt_of_cell? w _ hx211_4)).trans hx211_4
      replace hx211_5 := (HB.out.cell (World.block_lt_of_cell? w _ hx211_5)).trans hx211_5
      replace hx211_6 := (HB.out.cell (World.block_lt_of_cell? w _ hx211_6)).trans hx211_6
      replace hx211_7 := (HB.out.cell (World.block_lt_of_cell? w _ hx211_7)).trans hx211_7
      replace hx211_8 := (HB.out.cell (World.block_lt_of_cell? w _ hx211_8)).trans hx211_8
      replace hx211_9 := (HB.out.cell (World.block_lt_of_cell? w _ hx211_9)).trans hx211_9
      replace hx211_10 := (HB.out.cell (World.block_lt_of_cell? w _ hx211_10)).trans hx211_10
      replace hx211_11 := (HB.out.cell (World.block_lt_of_cell? w _ hx211_11)).trans hx211_11
      replace hx211_12 := (HB.out.cell (World.block_lt_of_cell? w _ hx211_12)).trans hx211_12
      replace hx211_13 := (HB.out.cell (World.block_lt_of_cell? w _ hx211_13)).trans hx211_13
      replace hx211_14 := (HB.out.cell (World.block_lt_of_cell? w _ hx211_14)).trans hx211_14
      replace hx211_15 := (HB.out.cell (World.block_lt_of_cell? w _ hx211_15)).trans hx211_15
      replace hx211_16 := (HB.out.cell (World.block_lt_of_cell? w _ hx211_16)).trans hx211_16
      replace hx211_17 := (HB.out.cell (World.block_lt_of_cell? w _ hx211_17)).trans hx211_17
      replace hx211_18 := (HB.out.cell (World.block_lt_of_cell? w _ hx211_18)).trans hx211_18
      replace hx211_19 := (HB.out.cell (World.block_lt_of_cell? w _ hx211_19)).trans hx211_19
      replace p211 := eq_true p211
      replace q211 := eq_true q211
      ((try go_wp2_with (first | ((with_reducible refine gate_load (t := 68) rfl ?_); refine load_at2 (t := 68) ?hg ?ho (c0 := _) (cs := [_, _, _, _, _, _, _, _, _, _, _, _, _, _, _, _, _, _, _]) Try.underlying68 rfl (by kernel_rfl) hx211_0 ⟨hx211_1, hx211_2, hx211_3, hx211_4, hx211_5, hx211_6, hx211_7, hx211_8, hx211_9, hx211_10, hx211_11, hx211_12, hx211_13, hx211_14, hx211_15, hx211_16, hx211_17, hx211_18, hx211_19, trivial⟩ ?_; (case hg => rfl); (case ho => refine ⟨_, rfl, ?_⟩; first | (with_reducible rfl) | (go_simp; done))) | ((with_reducible refine gate_load (t := 56) rfl ?_); refine load_row3 (t := 56) (g := gb196) ?hg BK196.out ?ho ?hb Try.underlying56 rfl ?hs ?_; (case hg => rfl); (case ho => refine ⟨_, rfl, ?_⟩; first | (with_reducible rfl) | (go_simp; done)); (case hb => (with_reducible repeat (first | refine blk_drewN ?_ _ | refine blk_drew ?_ | refine blk_alloc ?_ _)); with_reducible exact BK196.out); (case hs => kernel_rfl)) | ((with_reducible refine gate_load (t := 68) rfl ?_); refine load_row3w_ (t := 68) (g := gb212) ?hg BK212.out ?ho ?hb Try.underlying68 rfl ?hs ?_; (case hg => first | rfl | (go_simp; done) | (simp [Region.wanted, yielded]; done)); (case ho => refine ⟨_, rfl, ?_⟩; first | (with_reducible rfl) | (go_simp; done)); (case hb => (with_reducible repeat (first | refine blk_drewN ?_ _ | refine blk_drew ?_ | refine blk_alloc ?_ _)); with_reducible exact BK212.out); (case hs => kernel_rfl)) | ((with_reducible refine gate_dst (N := 12) rfl ?_); refine box_event ?hg (N := 12) ?hd (cs := #[.int .i64 0, .int .i64 0, .string (⟨#[]⟩ : ByteArray), .string (⟨#[]⟩ : ByteArray), .string (⟨#[]⟩ : ByteArray), .int .i64 0, .int .i64 0, .int .i64 0, .int .i64 0, .bool false, .int .i64 0, .int .i64 0, .int .i64 0, .string (⟨#[]⟩ : ByteArray), .int .i64 0, .int .i64 0, .string (⟨#[]⟩ : ByteArray), .int .i64 0, .int .i64 0, .string (⟨#[]⟩ : ByteArray)]) (t := 68) ?hr ?_; (case hd => rfl); (case hg => rfl); (case hr => first | (go_simp; done) | (go_simp; rfl)); intro gb212 hg w63 hbox hb; have n0_ := Aside0.mk (blk_below (blk_y BK196.out) hb); have n1_ := Aside0.mk (blk_below (blk_y BK202.out) hb); have n2_ := Aside0.mk (below_step (below_y HB.out) hb); have n3_ := Aside0.mk (hbox); have n4_ := Aside0.mk ((by rw [hg]; exact (below_size (below_y HB.out)) : w.heap.size ≤ gb212)); have n5_ := Aside0.mk ((by rw [hg]; exact (below_size (below_y HB.out)) : w.heap.size ≤ gb212)); have n6_ := Aside0.mk ((by rw [hg]; exact Nat.ne_of_lt (blk_lt (blk_y BK196.out)) : gb196 ≠ gb212)); have n7_ := Aside0.mk ((by rw [hg]; exact Nat.ne_of_gt (blk_lt (blk_y BK196.out)) : gb212 ≠ gb196)); have n8_ := Aside0.mk ((by rw [hg]; exact Nat.ne_of_lt (blk_lt (blk_y BK202.out)) : gb202 ≠ gb212)); have n9_ := Aside0.mk ((by rw [hg]; exact Nat.ne_of_gt (blk_lt (blk_y BK202.out)) : gb212 ≠ gb202)); clear BK196; clear BK202; clear HB; have BK196 := n0_; have BK202 := n1_; have HB := n2_; have BK212 := n3_; have GW212 := n4_; have GE212 := n5_; have NB196_212 := n6_; have NB212_196 := n7_; have NB202_212 := n8_; have NB212_202 := n9_; clear n0_ n1_ n2_ n3_ n4_ n5_ n6_ n7_ n8_ n9_; clear hb hbox hg; have hnb64 := NB212_196.out; have hnc64 := NB196_212.out; have hnb65 := NB212_202.out; have hnc65 := NB202_212.out; have hcz66_0 := bc BK212.out 0 (.int .i64 0) rfl; have hcz66_1 := bc BK212.out 1 (.int .i64 0) rfl; have hcz66_2 := bc BK212.out 2 (.string (⟨#[]⟩ : ByteArray)) rfl; have hcz66_3 := bc BK212.out 3 (.string (⟨#[]⟩ : ByteArray)) rfl; have hcz66_4 := bc BK212.out 4 (.string (⟨#[]⟩ : ByteArray)) rfl; have hcz66_5 := bc BK212.out 5 (.int .i64 0) rfl; have hcz66_6 := bc BK212.out 6 (.int .i64 0) rfl; have hcz66_7 := bc BK212.out 7 (.int .i64 0) rfl; have hcz66_8 := bc BK212.out 8 (.int .i64 0) rfl; have hcz66_9 := bc BK212.out 9 (.bool false) rfl; have hcz66_10 := bc BK212.out 10 (.int .i64 0) rfl; have hcz66_11 := bc BK212.out 11 (.int .i64 0) rfl; have hcz66_12 := bc BK212.out 12 (.int .i64 0) rfl; have hcz66_13 := bc BK212.out 13 (.string (⟨#[]⟩ : ByteArray)) rfl; have hcz66_14 := bc BK212.out 14 (.int .i64 0) rfl; have hcz66_15 := bc BK212.out 15 (.int .i64 0) rfl; have hcz66_16 := bc BK212.out 16 (.string (⟨#[]⟩ : ByteArray)) rfl; have hcz66_17 := bc BK212.out 17 (.int .i64 0) rfl; have hcz66_18 := bc BK212.out 18 (.int .i64 0) rfl; have hcz66_19 := bc BK212.out 19 (.string (⟨#[]⟩ : ByteArray)) rfl; have hfz66_0 := blk_frozen BK212.out 0; have hfz66_1 := blk_frozen BK212.out 1; have hfz66_2 := blk_frozen BK212.out 2; have hfz66_3 := blk_frozen BK212.out 3; have hfz66_4 := blk_frozen BK212.out 4; have hfz66_5 := blk_frozen BK212.out 5; have hfz66_6 := blk_frozen BK212.out 6; have hfz66_7 := blk_frozen BK212.out 7; have hfz66_8 := blk_frozen BK212.out 8; have hfz66_9 := blk_frozen BK212.out 9; have hfz66_10 := blk_frozen BK212.out 10; have hfz66_11 := blk_frozen BK212.out 11; have hfz66_12 := blk_frozen BK212.out 12; have hfz66_13 := blk_frozen BK212.out 13; have hfz66_14 := blk_frozen BK212.out 14; have hfz66_15 := blk_frozen BK212.out 15; have hfz66_16 := blk_frozen BK212.out 16; have hfz66_17 := blk_frozen BK212.out 17; have hfz66_18 := blk_frozen BK212.out 18; have hfz66_19 := blk_frozen BK212.out 19) | ((with_reducible refine gate_store (t := 68) (p := 12) rfl ?_); (try (rw [drewN_self w63]; generalize hq_ : World.drewN w63 _ = w63; have n0_ := Aside0.mk (blk_at hq_ BK196.out); have n1_ := Aside0.mk (blk_at hq_ BK202.out); have n2_ := Aside0.mk (blk_at hq_ BK212.out); have n3_ := Aside0.mk (below_at hq_ HB.out); clear hq_ BK196 BK202 BK212 HB; have BK196 := n0_; have BK202 := n1_; have BK212 := n2_; have HB := n3_; clear n0_ n1_ n2_ n3_)); refine store_whole2 (t := 68) (g := gb212) ?hg ?hn (cells := #[.int .i64 ((rd_T68 l0_5 x11_3).f0), .int .i64 ((rd_T68 l0_5 x11_3).f1), .string ((rd_T68 l0_5 x11_3).f2), .string ((rd_T68 l0_5 x11_3).f3), .string ((rd_T68 l0_5 x11_3).f4), .int .i64 ((rd_T68 l0_5 x11_3).f5), .int .i64 ((rd_T68 l0_5 x11_3).f6), .int .i64 ((rd_T68 l0_5 x11_3).f7), .int .i64 ((rd_T68 l0_5 x11_3).f8), .bool ((rd_T68 l0_5 x11_3).f9), .int .i64 ((rd_T68 l0_5 x11_3).f10), .int .i64 ((rd_T68 l0_5 x11_3).f11), .int .i64 ((rd_T68 l0_5 x11_3).f12), .string ((rd_T68 l0_5 x11_3).f13), .int .i64 ((rd_T68 l0_5 x11_3).f14), .int .i64 ((rd_T68 l0_5 x11_3).f15), .string ((rd_T68 l0_5 x11_3).f16), .int .i64 ((rd_T68 l0_5 x11_3).f17), .int .i64 ((rd_T68 l0_5 x11_3).f18), .string ((rd_T68 l0_5 x11_3).f19)]) ?ho (blk_y BK212.out) (by kernel_rfl) rfl ?h1 ?_; (case hg => rfl); (case hn => rfl); (case ho => refine ⟨_, _, rfl, ?_, ?_⟩; all_goals (first | (with_reducible rfl) | (go_simp; done) | rfl | (go_simp; rfl))); (case h1 => first | rfl | simp [Value.oneCell']); intro w67 hw; have hg : w63.grownBy w67 (some gb212) := (by rw [hw]; exact grown_setRow _ _ _); have n0_ := Aside0.mk ((by rw [hw]; exact (setRow_other _ _ _ _ NB196_212.out).trans (blk_y BK196.out) : w67.heap[gb196]? = some (.cells #[.int .i64 a0_0, .int .i64 a0_1, .int .i64 a0_2, .int .i64 a0_3, .slice A0_4 l0_4.length c0_4, .slice (some ad211) l0_5.length c0_5] 56 (0, 0)))); have n1_ := Aside0.mk ((by rw [hw]; exact (setRow_other _ _ _ _ NB202_212.out).trans (blk_y BK202.out) : w67.heap[gb202]? = some (.cells #[.int .i64 t199, .int .i64 t200] 59 (0, 0)))); have n2_ := Aside0.mk ((by rw [hw]; exact setRow_heap _ _ _ _ _ _ (blk_y BK212.out) : w67.heap[gb212]? = some (.cells #[.int .i64 ((rd_T68 l0_5 x11_3).f0), .int .i64 ((rd_T68 l0_5 x11_3).f1), .string ((rd_T68 l0_5 x11_3).f2), .string ((rd_T68 l0_5 x11_3).f3), .string ((rd_T68 l0_5 x11_3).f4), .int .i64 ((rd_T68 l0_5 x11_3).f5), .int .i64 ((rd_T68 l0_5 x11_3).f6), .int .i64 ((rd_T68 l0_5 x11_3).f7), .int .i64 ((rd_T68 l0_5 x11_3).f8), .bool ((rd_T68 l0_5 x11_3).f9), .int .i64 ((rd_T68 l0_5 x11_3).f10), .int .i64 ((rd_T68 l0_5 x11_3).f11), .int .i64 ((rd_T68 l0_5 x11_3).f12), .string ((rd_T68 l0_5 x11_3).f13), .int .i64 ((rd_T68 l0_5 x11_3).f14), .int .i64 ((rd_T68 l0_5 x11_3).f15), .string ((rd_T68 l0_5 x11_3).f16), .int .i64 ((rd_T68 l0_5 x11_3).f17), .int .i64 ((rd_T68 l0_5 x11_3).f18), .string ((rd_T68 l0_5 x11_3).f19)] 68 (0, 0)))); have n3_ := Aside0.mk ((by rw [hw]; exact below_setRow (below_y HB.out) GE212.out _ : Below w.heap.size w w67)); clear BK196; clear BK202; clear BK212; clear HB; have BK196 := n0_; have BK202 := n1_; have BK212 := n2_; have HB := n3_; clear n0_ n1_ n2_ n3_; clear hg hw))); iterate 4 (try ((with_reducible refine is_region_ ?_); go_quiet (first | ((with_reducible refine gate_load (t := 68) rfl ?_); refine load_at2 (t := 68) ?hg ?ho (c0 := _) (cs := [_, _, _, _, _, _, _, _, _, _, _, _, _, _, _, _, _, _, _]) Try.underlying68 rfl (by kernel_rfl) hx211_0 ⟨hx211_1, hx211_2, hx211_3, hx211_4, hx211_5, hx211_6, hx211_7, hx211_8, hx211_9, hx211_10, hx211_11, hx211_12, hx211_13, hx211_14, hx211_15, hx211_16, hx211_17, hx211_18, hx211_19, trivial⟩ ?_; (case hg => rfl); (case ho => refine ⟨_, rfl, ?_⟩; first | (with_reducible rfl) | (go_simp; done))) | ((with_reducible refine gate_load (t := 56) rfl ?_); refine load_row3 (t := 56) (g := gb196) ?hg BK196.out ?ho ?hb Try.underlying56 rfl ?hs ?_; (case hg => rfl); (case ho => refine ⟨_, rfl, ?_⟩; first | (with_reducible rfl) | (go_simp; done)); (case hb => (with_reducible repeat (first | refine blk_drewN ?_ _ | refine blk_drew ?_ | refine blk_alloc ?_ _)); with_reducible exact BK196.out); (case hs => kernel_rfl)) | ((with_reducible refine gate_load (t := 68) rfl ?_); refine load_row3w_ (t := 68) (g := gb212) ?hg BK212.out ?ho ?hb Try.underlying68 rfl ?hs ?_; (case hg => first | rfl | (go_simp; done) | (simp [Region.wanted, yielded]; done)); (case ho => refine ⟨_, rfl, ?_⟩; first | (with_reducible rfl) | (go_simp; done)); (case hb => (with_reducible repeat (first | refine blk_drewN ?_ _ | refine blk_drew ?_ | refine blk_alloc ?_ _)); with_reducible exact BK212.out); (case hs => kernel_rfl)) | ((with_reducible refine gate_dst (N := 12) rfl ?_); refine box_event ?hg (N := 12) ?hd (cs := #[.int .i64 0, .int .i64 0, .string (⟨#[]⟩ : ByteArray), .string (⟨#[]⟩ : ByteArray), .string (⟨#[]⟩ : ByteArray), .int .i64 0, .int .i64 0, .int .i64 0, .int .i64 0, .bool false, .int .i64 0, .int .i64 0, .int .i64 0, .string (⟨#[]⟩ : ByteArray), .int .i64 0, .int .i64 0, .string (⟨#[]⟩ : ByteArray), .int .i64 0, .int .i64 0, .string (⟨#[]⟩ : ByteArray)]) (t := 68) ?hr ?_; (case hd => rfl); (case hg => rfl); (case hr => first | (go_simp; done) | (go_simp; rfl)); intro gb212 hg w63 hbox hb; have n0_ := Aside0.mk (blk_below (blk_y BK196.out) hb); have n1_ := Aside0.mk (blk_below (blk_y BK202.out) hb); have n2_ := Aside0.mk (below_step (below_y HB.out) hb); have n3_ := Aside0.mk (hbox); have n4_ := Aside0.mk ((by rw [hg]; exact (below_size (below_y HB.out)) : w.heap.size ≤ gb212)); have n5_ := Aside0.mk ((by rw [hg]; exact (below_size (below_y HB.out)) : w.heap.size ≤ gb212)); have n6_ := Aside0.mk ((by rw [hg]; exact Nat.ne_of_lt (blk_lt (blk_y BK196.out)) : gb196 ≠ gb212)); have n7_ := Aside0.mk ((by rw [hg]; exact Nat.ne_of_gt (blk_lt (blk_y BK196.out)) : gb212 ≠ gb196)); have n8_ := Aside0.mk ((by rw [hg]; exact Nat.ne_of_lt (blk_lt (blk_y BK202.out)) : gb202 ≠ gb212)); have n9_ := Aside0.mk ((by rw [hg]; exact Nat.ne_of_gt (blk_lt (blk_y BK202.out)) : gb212 ≠ gb202)); clear BK196; clear BK202; clear HB; have BK196 := n0_; have BK202 := n1_; have HB := n2_; have BK212 := n3_; have GW212 := n4_; have GE212 := n5_; have NB196_212 := n6_; have NB212_196 := n7_; have NB202_212 := n8_; have NB212_202 := n9_; clear n0_ n1_ n2_ n3_ n4_ n5_ n6_ n7_ n8_ n9_; clear hb hbox hg; have hnb64 := NB212_196.out; have hnc64 := NB196_212.out; have hnb65 := NB212_202.out; have hnc65 := NB202_212.out; have hcz66_0 := bc BK212.out 0 (.int .i64 0) rfl; have hcz66_1 := bc BK212.out 1 (.int .i64 0) rfl; have hcz66_2 := bc BK212.out 2 (.string (⟨#[]⟩ : ByteArray)) rfl; have hcz66_3 := bc BK212.out 3 (.string (⟨#[]⟩ : ByteArray)) rfl; have hcz66_4 := bc BK212.out 4 (.string (⟨#[]⟩ : ByteArray)) rfl; have hcz66_5 := bc BK212.out 5 (.int .i64 0) rfl; have hcz66_6 := bc BK212.out 6 (.int .i64 0) rfl; have hcz66_7 := bc BK212.out 7 (.int .i64 0) rfl; have hcz66_8 := bc BK212.out 8 (.int .i64 0) rfl; have hcz66_9 := bc BK212.out 9 (.bool false) rfl; have hcz66_10 := bc BK212.out 10 (.int .i64 0) rfl; have hcz66_11 := bc BK212.out 11 (.int .i64 0) rfl; have hcz66_12 := bc BK212.out 12 (.int .i64 0) rfl; have hcz66_13 := bc BK212.out 13 (.string (⟨#[]⟩ : ByteArray)) rfl; have hcz66_14 := bc BK212.out 14 (.int .i64 0) rfl; have hcz66_15 := bc BK212.out 15 (.int .i64 0) rfl; have hcz66_16 := bc BK212.out 16 (.string (⟨#[]⟩ : ByteArray)) rfl; have hcz66_17 := bc BK212.out 17 (.int .i64 0) rfl; have hcz66_18 := bc BK212.out 18 (.int .i64 0) rfl; have hcz66_19 := bc BK212.out 19 (.string (⟨#[]⟩ : ByteArray)) rfl; have hfz66_0 := blk_frozen BK212.out 0; have hfz66_1 := blk_frozen BK212.out 1; have hfz66_2 := blk_frozen BK212.out 2; have hfz66_3 := blk_frozen BK212.out 3; have hfz66_4 := blk_frozen BK212.out 4; have hfz66_5 := blk_frozen BK212.out 5; have hfz66_6 := blk_frozen BK212.out 6; have hfz66_7 := blk_frozen BK212.out 7; have hfz66_8 := blk_frozen BK212.out 8; have hfz66_9 := blk_frozen BK212.out 9; have hfz66_10 := blk_frozen BK212.out 10; have hfz66_11 := blk_frozen BK212.out 11; have hfz66_12 := blk_frozen BK212.out 12; have hfz66_13 := blk_frozen BK212.out 13; have hfz66_14 := blk_frozen BK212.out 14; have hfz66_15 := blk_frozen BK212.out 15; have hfz66_16 := blk_frozen BK212.out 16; have hfz66_17 := blk_frozen BK212.out 17; have hfz66_18 := blk_frozen BK212.out 18; have hfz66_19 := blk_frozen BK212.out 19) | ((with_reducible refine gate_store (t := 68) (p := 12) rfl ?_); (try (rw [drewN_self w63]; generalize hq_ : World.drewN w63 _ = w63; have n0_ := Aside0.mk (blk_at hq_ BK196.out); have n1_ := Aside0.mk (blk_at hq_ BK202.out); have n2_ := Aside0.mk (blk_at hq_ BK212.out); have n3_ := Aside0.mk (below_at hq_ HB.out); clear hq_ BK196 BK202 BK212 HB; have BK196 := n0_; have BK202 := n1_; have BK212 := n2_; have HB := n3_; clear n0_ n1_ n2_ n3_)); refine store_whole2 (t := 68) (g := gb212) ?hg ?hn (cells := #[.int .i64 ((rd_T68 l0_5 x11_3).f0), .int .i64 ((rd_T68 l0_5 x11_3).f1), .string ((rd_T68 l0_5 x11_3).f2), .string ((rd_T68 l0_5 x11_3).f3), .string ((rd_T68 l0_5 x11_3).f4), .int .i64 ((rd_T68 l0_5 x11_3).f5), .int .i64 ((rd_T68 l0_5 x11_3).f6), .int .i64 ((rd_T68 l0_5 x11_3).f7), .int .i64 ((rd_T68 l0_5 x11_3).f8), .bool ((rd_T68 l0_5 x11_3).f9), .int .i64 ((rd_T68 l0_5 x11_3).f10), .int .i64 ((rd_T68 l0_5 x11_3).f11), .int .i64 ((rd_T68 l0_5 x11_3).f12), .string ((rd_T68 l0_5 x11_3).f13), .int .i64 ((rd_T68 l0_5 x11_3).f14), .int .i64 ((rd_T68 l0_5 x11_3).f15), .string ((rd_T68 l0_5 x11_3).f16), .int .i64 ((rd_T68 l0_5 x11_3).f17), .int .i64 ((rd_T68 l0_5 x11_3).f18), .string ((rd_T68 l0_5 x11_3).f19)]) ?ho (blk_y BK212.out) (by kernel_rfl) rfl ?h1 ?_; (case hg => rfl); (case hn => rfl); (case ho => refine ⟨_, _, rfl, ?_, ?_⟩; all_goals (first | (with_reducible rfl) | (go_simp; done) | rfl | (go_simp; rfl))); (case h1 => first | rfl | simp [Value.oneCell']); intro w67 hw; have hg : w63.grownBy w67 (some gb212) := (by rw [hw]; exact grown_setRow _ _ _); have n0_ := Aside0.mk ((by rw [hw]; exact (setRow_other _ _ _ _ NB196_212.out).trans (blk_y BK196.out) : w67.heap[gb196]? = some (.cells #[.int .i64 a0_0, .int .i64 a0_1, .int .i64 a0_2, .int .i64 a0_3, .slice A0_4 l0_4.length c0_4, .slice (some ad211) l0_5.length c0_5] 56 (0, 0)))); have n1_ := Aside0.mk ((by rw [hw]; exact (setRow_other _ _ _ _ NB202_212.out).trans (blk_y BK202.out) : w67.heap[gb202]? = some (.cells #[.int .i64 t199, .int .i64 t200] 59 (0, 0)))); have n2_ := Aside0.mk ((by rw [hw]; exact setRow_heap _ _ _ _ _ _ (blk_y BK212.out) : w67.heap[gb212]? = some (.cells #[.int .i64 ((rd_T68 l0_5 x11_3).f0), .int .i64 ((rd_T68 l0_5 x11_3).f1), .string ((rd_T68 l0_5 x11_3).f2), .string ((rd_T68 l0_5 x11_3).f3), .string ((rd_T68 l0_5 x11_3).f4), .int .i64 ((rd_T68 l0_5 x11_3).f5), .int .i64 ((rd_T68 l0_5 x11_3).f6), .int .i64 ((rd_T68 l0_5 x11_3).f7), .int .i64 ((rd_T68 l0_5 x11_3).f8), .bool ((rd_T68 l0_5 x11_3).f9), .int .i64 ((rd_T68 l0_5 x11_3).f10), .int .i64 ((rd_T68 l0_5 x11_3).f11), .int .i64 ((rd_T68 l0_5 x11_3).f12), .string ((rd_T68 l0_5 x11_3).f13), .int .i64 ((rd_T68 l0_5 x11_3).f14), .int .i64 ((rd_T68 l0_5 x11_3).f15), .string ((rd_T68 l0_5 x11_3).f16), .int .i64 ((rd_T68 l0_5 x11_3).f17), .int .i64 ((rd_T68 l0_5 x11_3).f18), .string ((rd_T68 l0_5 x11_3).f19)] 68 (0, 0)))); have n3_ := Aside0.mk ((by rw [hw]; exact below_setRow (below_y HB.out) GE212.out _ : Below w.heap.size w w67)); clear BK196; clear BK202; clear BK212; clear HB; have BK196 := n0_; have BK202 := n1_; have BK212 := n2_; have HB := n3_; clear n0_ n1_ n2_ n3_; clear hg hw)); (try go_wp2))))
      go_roundg k3
      case measure => have := HJ6.out; have := HK2.out; have := HK3.out; omega
      case rel => exact ⟨(true), (wrap64 (x11_3 + 1)), (by first | rfl | (simp; done) | (simp [*]; done)), (by first | rfl | (simp; done) | (simp [*]; done)), H', ⟨by have := HJ6.out; have := HK2.out; have := HK3.out; omega⟩, ⟨by (with_reducible repeat (first | refine blk_drewN ?_ _ | refine blk_drew ?_ | refine blk_alloc ?_ _)); exact BK196.out⟩, ⟨by (with_reducible repeat (first | refine blk_drewN ?_ _ | refine blk_drew ?_ | refine blk_alloc ?_ _)); exact BK202.out⟩, ⟨by repeat (first | (with_reducible first | exact HB.out | apply below_alloc | apply pw_below_drewN | apply below_drew1 | refine below_set ?_ GE196.out | refine below_set ?_ GE202.out | refine below_set ?_ GE212.out) | exact HB.out)⟩⟩
  replace c60 := Bool.eq_false_iff.mpr c60
  subst c60
  have H1 : (if t199 = 2 then (if ((rd_T68 l0_5 x11_3).f0) = t200 then ((newsreelref43_Waits.f ((rd_T68 l0_5 x11_3).f0) ((rd_T68 l0_5 x11_3).f1) ((rd_T68 l0_5 x11_3).f2) ((rd_T68 l0_5 x11_3).f3) ((rd_T68 l0_5 x11_3).f4) ((rd_T68 l0_5 x11_3).f5) ((rd_T68 l0_5 x11_3).f6) ((rd_T68 l0_5 x11_3).f7) ((rd_T68 l0_5 x11_3).f8) ((rd_T68 l0_5 x11_3).f9) ((rd_T68 l0_5 x11_3).f10) ((rd_T68 l0_5 x11_3).f11) ((rd_T68 l0_5 x11_3).f12) ((rd_T68 l0_5 x11_3).f13) ((rd_T68 l0_5 x11_3).f14) ((rd_T68 l0_5 x11_3).f15) ((rd_T68 l0_5 x11_3).f16) ((rd_T68 l0_5 x11_3).f17) ((rd_T68 l0_5 x11_3).f18) ((rd_T68 l0_5 x11_3).f19)).bind fun t213 => (if t213 = true then (newsreellaw43_PickWhen.l1 k3 a1 (decide (((rd_T68 l0_5 x11_3).f12) ≤ a1)) (wrap64 (x11_3 + 1)) a0_0 a0_1 a0_2 a0_3 l0_4 l0_5 t199 t200) else (newsreellaw43_PickWhen.l1 k3 a1 false (wrap64 (x11_3 + 1)) a0_0 a0_1 a0_2 a0_3 l0_4 l0_5 t199 t200))) else (newsreellaw43_PickWhen.l1 k3 a1 false (wrap64 (x11_3 + 1)) a0_0 a0_1 a0_2 a0_3 l0_4 l0_5 t199 t200)) else (newsreellaw43_PickWhen.l1 k3 a1 false (wrap64 (x11_3 + 1)) a0_0 a0_1 a0_2 a0_3 l0_4 l0_5 t199 t200)) = some r := by rw [if_neg (show ¬ (false = true) by decide)] at H; exact H
  clear H
  have H := H1
  clear H1
  by_cases c68 : t199 = 2
  rotate_left
  · rw [if_neg c68] at H
    have c68b0 : (t199 == 2) = false := beq_eq_false_iff_ne.mpr c68
    have c68b1 : (t199 != 2) = true := bne_iff_ne.mpr c68
    as_aux_lemma =>
      have H' := Aside0.mk H
      clear H
      have hnb102 := NB196_202.out
      have hnc102 := NB202_196.out
      have hcz103_0 := bc BK196.out 0 (.int .i64 a0_0) rfl
      have hcz103_1 := bc BK196.out 1 (.int .i64 a0_1) rfl
      have hcz103_2 := bc BK196.out 2 (.int .i64 a0_2) rfl
      have hcz103_3 := bc BK196.out 3 (.int .i64 a0_3) rfl
      have hcz103_4 := bc BK196.out 4 (.slice A0_4 l0_4.length c0_4) rfl
      have hcz103_5 := bc BK196.out 5 (.slice A0_5 l0_5.length c0_5) rfl
      have hfz103_0 := blk_frozen BK196.out 0
      have hfz103_1 := blk_frozen BK196.out 1
      have hfz103_2 := blk_frozen BK196.out 2
      have hfz103_3 := blk_frozen BK196.out 3
      have hfz103_4 := blk_frozen BK196.out 4
      have hfz103_5 := blk_frozen BK196.out 5
      have p211 : 0 ≤ (x11_3 : Int) := of_decide_eq_true (by first | (with_reducible assumption) | assumption)
      have q211 : x11_3 < (l0_5.length : Int) := of_decide_eq_true (by first | (with_reducible assumption) | assumption)
      obtain ⟨ad211, e211, hx211_0, hx211_1, hx211_2, hx211_3, hx211_4, hx211_5, hx211_6, hx211_7, hx211_8, hx211_9, hx211_10, hx211_11, hx211_12, hx211_13, hx211_14, hx211_15, hx211_16, hx211_17, hx211_18, hx211_19⟩ := at_T68 HR0_5.out x11_3 p211 q211
      cases e211
      replace hx211_0 := (HB.out.cell (World.block_lt_of_cell? w _ hx211_0)).trans hx211_0
      replace hx211_1 := (HB.out.cell (World.block_lt_of_cell? w _ hx211_1)).trans hx211_1
      replace hx211_2 := (HB.out.cell (World.block_lt_of_cell? w _ hx211_2)).trans hx211_2
      replace hx211_3 := (HB.out.cell (World.block_lt_of_cell? w _ hx211_3)).trans hx211_3
      replace hx211_4 := (HB.out.cell (World.block_lt_of_cell? w _ hx211_4)).trans hx211_4
      replace hx211_5 := (HB.out.cell (World.block_lt_of_cell? w _ hx211_5)).trans hx211_5
      replace hx211_6 := (HB.out.cell (World.block_lt_of_cell? w _ hx211_6)).trans hx211_6
      replace hx211_7 := (HB.out.cell (World.block_lt_of_cell? w _ hx211_7)).trans hx211_7
      replace hx211_8 := (HB.out.cell (World.block_lt_of_cell? w _ hx211_8)).trans hx211_8
      replace hx211_9 := (HB.out.cell (World.block_lt_of_cell? w _ hx211_9)).trans hx211_9
      replace hx211_10 := (HB.out.cell (World.block_lt_of_cell? w _ hx211_10)).trans hx211_10
      replace hx211_11 := (HB.out.cell (World.block_lt_of_cell? w _ hx211_11)).trans hx211_11
      replace hx211_12 := (HB.out.cell (World.block_lt_of_cell? w _ hx211_12)).trans hx211_12
      replace hx211_13 := (HB.out.cell (World.block_lt_of_cell? w _ hx211_13)).trans hx211_13
      replace hx211_14 := (HB.out.cell (World.block_lt_of_cell? w _ hx211_14)).trans hx211_14
      replace hx211_15 := (HB.out.cell (World.block_lt_of_cell? w _ hx211_15)).trans hx211_15
      replace hx211_16 := (HB.out.cell (World.block_lt_of_cell? w _ hx211_16)).trans hx211_16
      replace hx211_17 := (HB.out.cell (World.block_lt_of_cell? w _ hx211_17)).trans hx211_17
      replace hx211_18 := (HB.out.cell (World.block_lt_of_cell? w _ hx211_18)).trans hx211_18
      replace hx211_19 := (HB.out.cell (World.block_lt_of_cell? w _ hx211_19)).trans hx211_19
      replace p211 := eq_true p211
      replace q211 := eq_true q211
      ((try go_wp2_with (first | ((with_reducible refine gate_load (t := 68) rfl ?_); refine load_at2 (t := 68) ?hg ?ho (c0 := _) (cs := [_, _, _, _, _, _, _, _, _, _, _, _, _, _, _, _, _, _, _]) Try.underlying68 rfl (by kernel_rfl) hx211_0 ⟨hx211_1, hx211_2, hx211_3, hx211_4, hx211_5, hx211_6, hx211_7, hx211_8, hx211_9, hx211_10, hx211_11, hx211_12, hx211_13, hx211_14, hx211_15, hx211_16, hx211_17, hx211_18, hx211_19, trivial⟩ ?_; (case hg => rfl); (case ho => refine ⟨_, rfl, ?_⟩; first | (with_reducible rfl) | (go_simp; done))) | ((with_reducible refine gate_load (t := 56) rfl ?_); refine load_row3 (t := 56) (g := gb196) ?hg BK196.out ?ho ?hb Try.underlying56 rfl ?hs ?_; (case hg => rfl); (case ho => refine ⟨_, rfl, ?_⟩; first | (with_reducible rfl) | (go_simp; done)); (case hb => (with_reducible repeat (first | refine blk_drewN ?_ _ | refine blk_drew ?_ | refine blk_alloc ?_ _)); with_reducible exact BK196.out); (case hs => kernel_rfl)) | ((with_reducible refine gate_load (t := 68) rfl ?_); refine load_row3w_ (t := 68) (g := gb212) ?hg BK212.out ?ho ?hb Try.underlying68 rfl ?hs ?_; (case hg => first | rfl | (go_simp; done) | (simp [Region.wanted, yielded]; done)); (case ho => refine ⟨_, rfl, ?_⟩; first | (with_reducible rfl) | (go_simp; done)); (case hb => (with_reducible repeat (first | refine blk_drewN ?_ _ | refine blk_drew ?_ | refine blk_alloc ?_ _)); with_reducible exact BK212.out); (case hs => kernel_rfl)) | ((with_reducible refine gate_dst (N := 12) rfl ?_); refine box_event ?hg (N := 12) ?hd (cs := #[.int .i64 0, .int .i64 0, .string (⟨#[]⟩ : ByteArray), .string (⟨#[]⟩ : ByteArray), .string (⟨#[]⟩ : ByteArray), .int .i64 0, .int .i64 0, .int .i64 0, .int .i64 0, .bool false, .int .i64 0, .int .i64 0, .int .i64 0, .string (⟨#[]⟩ : ByteArray), .int .i64 0, .int .i64 0, .string (⟨#[]⟩ : ByteArray), .int .i64 0, .int .i64 0, .string (⟨#[]⟩ : ByteArray)]) (t := 68) ?hr ?_; (case hd => rfl); (case hg => rfl); (case hr => first | (go_simp; done) | (go_simp; rfl)); intro gb212 hg w104 hbox hb; have n0_ := Aside0.mk (blk_below (blk_y BK196.out) hb); have n1_ := Aside0.mk (blk_below (blk_y BK202.out) hb); have n2_ := Aside0.mk (below_step (below_y HB.out) hb); have n3_ := Aside0.mk (hbox); have n4_ := Aside0.mk ((by rw [hg]; exact (below_size (below_y HB.out)) : w.heap.size ≤ gb212)); have n5_ := Aside0.mk ((by rw [hg]; exact (below_size (below_y HB.out)) : w.heap.size ≤ gb212)); have n6_ := Aside0.mk ((by rw [hg]; exact Nat.ne_of_lt (blk_lt (blk_y BK196.out)) : gb196 ≠ gb212)); have n7_ := Aside0.mk ((by rw [hg]; exact Nat.ne_of_gt (blk_lt (blk_y BK196.out)) : gb212 ≠ gb196)); have n8_ := Aside0.mk ((by rw [hg]; exact Nat.ne_of_lt (blk_lt (blk_y BK202.out)) : gb202 ≠ gb212)); have n9_ := Aside0.mk ((by rw [hg]; exact Nat.ne_of_gt (blk_lt (blk_y BK202.out)) : gb212 ≠ gb202)); clear BK196; clear BK202; clear HB; have BK196 := n0_; have BK202 := n1_; have HB := n2_; have BK212 := n3_; have GW212 := n4_; have GE212 := n5_; have NB196_212 := n6_; have NB212_196 := n7_; have NB202_212 := n8_; have NB212_202 := n9_; clear n0_ n1_ n2_ n3_ n4_ n5_ n6_ n7_ n8_ n9_; clear hb hbox hg; have hnb105 := NB212_196.out; have hnc105 := NB196_212.out; have hnb106 := NB212_202.out; have hnc106 := NB202_212.out; have hcz107_0 := bc BK212.out 0 (.int .i64 0) rfl; have hcz107_1 := bc BK212.out 1 (.int .i64 0) rfl; have hcz107_2 := bc BK212.out 2 (.string (⟨#[]⟩ : ByteArray)) rfl; have hcz107_3 := bc BK212.out 3 (.string (⟨#[]⟩ : ByteArray)) rfl; have hcz107_4 := bc BK212.out 4 (.string (⟨#[]⟩ : ByteArray)) rfl; have hcz107_5 := bc BK212.out 5 (.int .i64 0) rfl; have hcz107_6 := bc BK212.out 6 (.int .i64 0) rfl; have hcz107_7 := bc BK212.out 7 (.int .i64 0) rfl; have hcz107_8 := bc BK212.out 8 (.int .i64 0) rfl; have hcz107_9 := bc BK212.out 9 (.bool false) rfl; have hcz107_10 := bc BK212.out 10 (.int .i64 0) rfl; have hcz107_11 := bc BK212.out 11 (.int .i64 0) rfl; have hcz107_12 := bc BK212.out 12 (.int .i64 0) rfl; have hcz107_13 := bc BK212.out 13 (.string (⟨#[]⟩ : ByteArray)) rfl; have hcz107_14 := bc BK212.out 14 (.int .i64 0) rfl; have hcz107_15 := bc BK212.out 15 (.int .i64 0) rfl; have hcz107_16 := bc BK212.out 16 (.string (⟨#[]⟩ : ByteArray)) rfl; have hcz107_17 := bc BK212.out 17 (.int .i64 0) rfl; have hcz107_18 := bc BK212.out 18 (.int .i64 0) rfl; have hcz107_19 := bc BK212.out 19 (.string (⟨#[]⟩ : ByteArray)) rfl; have hfz107_0 := blk_frozen BK212.out 0; have hfz107_1 := blk_frozen BK212.out 1; have hfz107_2 := blk_frozen BK212.out 2; have hfz107_3 := blk_frozen BK212.out 3; have hfz107_4 := blk_frozen BK212.out 4; have hfz107_5 := blk_frozen BK212.out 5; have hfz107_6 := blk_frozen BK212.out 6; have hfz107_7 := blk_frozen BK212.out 7; have hfz107_8 := blk_frozen BK212.out 8; have hfz107_9 := blk_frozen BK212.out 9; have hfz107_10 := blk_frozen BK212.out 10; have hfz107_11 := blk_frozen BK212.out 11; have hfz107_12 := blk_frozen BK212.out 12; have hfz107_13 := blk_frozen BK212.out 13; have hfz107_14 := blk_frozen BK212.out 14; have hfz107_15 := blk_frozen BK212.out 15; have hfz107_16 := blk_frozen BK212.out 16; have hfz107_17 := blk_frozen BK212.out 17; have hfz107_18 := blk_frozen BK212.out 18; have hfz107_19 := blk_frozen BK212.out 19) | ((with_reducible refine gate_store (t := 68) (p := 12) rfl ?_); (try (rw [drewN_self w104]; generalize hq_ : World.drewN w104 _ = w104; have n0_ := Aside0.mk (blk_at hq_ BK196.out); have n1_ := Aside0.mk (blk_at hq_ BK202.out); have n2_ := Aside0.mk (blk_at hq_ BK212.out); have n3_ := Aside0.mk (below_at hq_ HB.out); clear hq_ BK196 BK202 BK212 HB; have BK196 := n0_; have BK202 := n1_; have BK212 := n2_; have HB := n3_; clear n0_ n1_ n2_ n3_)); refine store_whole2 (t := 68) (g := gb212) ?hg ?hn (cells := #[.int .i64 ((rd_T68 l0_5 x11_3).f0), .int .i64 ((rd_T68 l0_5 x11_3).f1), .string ((rd_T68 l0_5 x11_3).f2), .string ((rd_T68 l0_5 x11_3).f3), .string ((rd_T68 l0_5 x11_3).f4), .int .i64 ((rd_T68 l0_5 x11_3).f5), .int .i64 ((rd_T68 l0_5 x11_3).f6), .int .i64 ((rd_T68 l0_5 x11_3).f7), .int .i64 ((rd_T68 l0_5 x11_3).f8), .bool ((rd_T68 l0_5 x11_3).f9), .int .i64 ((rd_T68 l0_5 x11_3).f10), .int .i64 ((rd_T68 l0_5 x11_3).f11), .int .i64 ((rd_T68 l0_5 x11_3).f12), .string ((rd_T68 l0_5 x11_3).f13), .int .i64 ((rd_T68 l0_5 x11_3).f14), .int .i64 ((rd_T68 l0_5 x11_3).f15), .string ((rd_T68 l0_5 x11_3).f16), .int .i64 ((rd_T68 l0_5 x11_3).f17), .int .i64 ((rd_T68 l0_5 x11_3).f18), .string ((rd_T68 l0_5 x11_3).f19)]) ?ho (blk_y BK212.out) (by kernel_rfl) rfl ?h1 ?_; (case hg => rfl); (case hn => rfl); (case ho => refine ⟨_, _, rfl, ?_, ?_⟩; all_goals (first | (with_reducible rfl) | (go_simp; done) | rfl | (go_simp; rfl))); (case h1 => first | rfl | simp [Value.oneCell']); intro w108 hw; have hg : w104.grownBy w108 (some gb212) := (by rw [hw]; exact grown_setRow _ _ _); have n0_ := Aside0.mk ((by rw [hw]; exact (setRow_other _ _ _ _ NB196_212.out).trans (blk_y BK196.out) : w108.heap[gb196]? = some (.cells #[.int .i64 a0_0, .int .i64 a0_1, .int .i64 a0_2, .int .i64 a0_3, .slice A0_4 l0_4.length c0_4, .slice (some ad211) l0_5.length c0_5] 56 (0, 0)))); have n1_ := Aside0.mk ((by rw [hw]; exact (setRow_other _ _ _ _ NB202_212.out).trans (blk_y BK202.out) : w108.heap[gb202]? = some (.cells #[.int .i64 t199, .int .i64 t200] 59 (0, 0)))); have n2_ := Aside0.mk ((by rw [hw]; exact setRow_heap _ _ _ _ _ _ (blk_y BK212.out) : w108.heap[gb212]? = some (.cells #[.int .i64 ((rd_T68 l0_5 x11_3).f0), .int .i64 ((rd_T68 l0_5 x11_3).f1), .string ((rd_T68 l0_5 x11_3).f2), .string ((rd_T68 l0_5 x11_3).f3), .string ((rd_T68 l0_5 x11_3).f4), .int .i64 ((rd_T68 l0_5 x11_3).f5), .int .i64 ((rd_T68 l0_5 x11_3).f6), .int .i64 ((rd_T68 l0_5 x11_3).f7), .int .i64 ((rd_T68 l0_5 x11_3).f8), .bool ((rd_T68 l0_5 x11_3).f9), .int .i64 ((rd_T68 l0_5 x11_3).f10), .int .i64 ((rd_T68 l0_5 x11_3).f11), .int .i64 ((rd_T68 l0_5 x11_3).f12), .string ((rd_T68 l0_5 x11_3).f13), .int .i64 ((rd_T68 l0_5 x11_3).f14), .int .i64 ((rd_T68 l0_5 x11_3).f15), .string ((rd_T68 l0_5 x11_3).f16), .int .i64 ((rd_T68 l0_5 x11_3).f17), .int .i64 ((rd_T68 l0_5 x11_3).f18), .string ((rd_T68 l0_5 x11_3).f19)] 68 (0, 0)))); have n3_ := Aside0.mk ((by rw [hw]; exact below_setRow (below_y HB.out) GE212.out _ : Below w.heap.size w w108)); clear BK196; clear BK202; clear BK212; clear HB; have BK196 := n0_; have BK202 := n1_; have BK212 := n2_; have HB := n3_; clear n0_ n1_ n2_ n3_; clear hg hw; have hcz109_0 := bc BK202.out 0 (.int .i64 t199) rfl; have hcz109_1 := bc BK202.out 1 (.int .i64 t200) rfl; have hfz109_0 := blk_frozen BK202.out 0; have hfz109_1 := blk_frozen BK202.out 1))); iterate 4 (try ((with_reducible refine is_region_ ?_); go_quiet (first | ((with_reducible refine gate_load (t := 68) rfl ?_); refine load_at2 (t := 68) ?hg ?ho (c0 := _) (cs := [_, _, _, _, _, _, _, _, _, _, _, _, _, _, _, _, _, _, _]) Try.underlying68 rfl (by kernel_rfl) hx211_0 ⟨hx211_1, hx211_2, hx211_3, hx211_4, hx211_5, hx211_6, hx211_7, hx211_8, hx211_9, hx211_10, hx211_11, hx211_12, hx211_13, hx211_14, hx211_15, hx211_16, hx211_17, hx211_18, hx211_19, trivial⟩ ?_; (case hg => rfl); (case ho => refine ⟨_, rfl, ?_⟩; first | (with_reducible rfl) | (go_simp; done))) | ((with_reducible refine gate_load (t := 56) rfl ?_); refine load_row3 (t := 56) (g := gb196) ?hg BK196.out ?ho ?hb Try.underlying56 rfl ?hs ?_; (case hg => rfl); (case ho => refine ⟨_, rfl, ?_⟩; first | (with_reducible rfl) | (go_simp; done)); (case hb => (with_reducible repeat (first | refine blk_drewN ?_ _ | refine blk_drew ?_ | refine blk_alloc ?_ _)); with_reducible exact BK196.out); (case hs => kernel_rfl)) | ((with_reducible refine gate_load (t := 68) rfl ?_); refine load_row3w_ (t := 68) (g := gb212) ?hg BK212.out ?ho ?hb Try.underlying68 rfl ?hs ?_; (case hg => first | rfl | (go_simp; done) | (simp [Region.wanted, yielded]; done)); (case ho => refine ⟨_, rfl, ?_⟩; first | (with_reducible rfl) | (go_simp; done)); (case hb => (with_reducible repeat (first | refine blk_drewN ?_ _ | refine blk_drew ?_ | refine blk_alloc ?_ _)); with_reducible exact BK212.out); (case hs => kernel_rfl)) | ((with_reducible refine gate_dst (N := 12) rfl ?_); refine box_event ?hg (N := 12) ?hd (cs := #[.int .i64 0, .int .i64 0, .string (⟨#[]⟩ : ByteArray), .string (⟨#[]⟩ : ByteArray), .string (⟨#[]⟩ : ByteArray), .int .i64 0, .int .i64 0, .int .i64 0, .int .i64 0, .bool false, .int .i64 0, .int .i64 0, .int .i64 0, .string (⟨#[]⟩ : ByteArray), .int .i64 0, .int .i64 0, .string (⟨#[]⟩ : ByteArray), .int .i64 0, .int .i64 0, .string (⟨#[]⟩ : ByteArray)]) (t := 68) ?hr ?_; (case hd => rfl); (case hg => rfl); (case hr => first | (go_simp; done) | (go_simp; rfl)); intro gb212 hg w104 hbox hb; have n0_ := Aside0.mk (blk_below (blk_y BK196.out) hb); have n1_ := Aside0.mk (blk_below (blk_y BK202.out) hb); have n2_ := Aside0.mk (below_step (below_y HB.out) hb); have n3_ := Aside0.mk (hbox); have n4_ := Aside0.mk ((by rw [hg]; exact (below_size (below_y HB.out)) : w.heap.size ≤ gb212)); have n5_ := Aside0.mk ((by rw [hg]; exact (below_size (below_y HB.out)) : w.heap.size ≤ gb212)); have n6_ := Aside0.mk ((by rw [hg]; exact Nat.ne_of_lt (blk_lt (blk_y BK196.out)) : gb196 ≠ gb212)); have n7_ := Aside0.mk ((by rw [hg]; exact Nat.ne_of_gt (blk_lt (blk_y BK196.out)) : gb212 ≠ gb196)); have n8_ := Aside0.mk ((by rw [hg]; exact Nat.ne_of_lt (blk_lt (blk_y BK202.out)) : gb202 ≠ gb212)); have n9_ := Aside0.mk ((by rw [hg]; exact Nat.ne_of_gt (blk_lt (blk_y BK202.out)) : gb212 ≠ gb202)); clear BK196; clear BK202; clear HB; have BK196 := n0_; have BK202 := n1_; have HB := n2_; have BK212 := n3_; have GW212 := n4_; have GE212 := n5_; have NB196_212 := n6_; have NB212_196 := n7_; have NB202_212 := n8_; have NB212_202 := n9_; clear n0_ n1_ n2_ n3_ n4_ n5_ n6_ n7_ n8_ n9_; clear hb hbox hg; have hnb105 := NB212_196.out; have hnc105 := NB196_212.out; have hnb106 := NB212_202.out; have hnc106 := NB202_212.out; have hcz107_0 := bc BK212.out 0 (.int .i64 0) rfl; have hcz107_1 := bc BK212.out 1 (.int .i64 0) rfl; have hcz107_2 := bc BK212.out 2 (.string (⟨#[]⟩ : ByteArray)) rfl; have hcz107_3 := bc BK212.out 3 (.string (⟨#[]⟩ : ByteArray)) rfl; have hcz107_4 := bc BK212.out 4 (.string (⟨#[]⟩ : ByteArray)) rfl; have hcz107_5 := bc BK212.out 5 (.int .i64 0) rfl; have hcz107_6 := bc BK212.out 6 (.int .i64 0) rfl; have hcz107_7 := bc BK212.out 7 (.int .i64 0) rfl; have hcz107_8 := bc BK212.out 8 (.int .i64 0) rfl; have hcz107_9 := bc BK212.out 9 (.bool false) rfl; have hcz107_10 := bc BK212.out 10 (.int .i64 0) rfl; have hcz107_11 := bc BK212.out 11 (.int .i64 0) rfl; have hcz107_12 := bc BK212.out 12 (.int .i64 0) rfl; have hcz107_13 := bc BK212.out 13 (.string (⟨#[]⟩ : ByteArray)) rfl; have hcz107_14 := bc BK212.out 14 (.int .i64 0) rfl; have hcz107_15 := bc BK212.out 15 (.int .i64 0) rfl; have hcz107_16 := bc BK212.out 16 (.string (⟨#[]⟩ : ByteArray)) rfl; have hcz107_17 := bc BK212.out 17 (.int .i64 0) rfl; have hcz107_18 := bc BK212.out 18 (.int .i64 0) rfl; have hcz107_19 := bc BK212.out 19 (.string (⟨#[]⟩ : ByteArray)) rfl; have hfz107_0 := blk_frozen BK212.out 0; have hfz107_1 := blk_frozen BK212.out 1; have hfz107_2 := blk_frozen BK212.out 2; have hfz107_3 := blk_frozen BK212.out 3; have hfz107_4 := blk_frozen BK212.out 4; have hfz107_5 := blk_frozen BK212.out 5; have hfz107_6 := blk_frozen BK212.out 6; have hfz107_7 := blk_frozen BK212.out 7; have hfz107_8 := blk_frozen BK212.out 8; have hfz107_9 := blk_frozen BK212.out 9; have hfz107_10 := blk_frozen BK212.out 10; have hfz107_11 := blk_frozen BK212.out 11; have hfz107_12 := blk_frozen BK212.out 12; have hfz107_13 := blk_frozen BK212.out 13; have hfz107_14 := blk_frozen BK212.out 14; have hfz107_15 := blk_frozen BK212.out 15; have hfz107_16 := blk_frozen BK212.out 16; have hfz107_17 := blk_frozen BK212.out 17; have hfz107_18 := blk_frozen BK212.out 18; have hfz107_19 := blk_frozen BK212.out 19) | ((with_reducible refine gate_store (t := 68) (p := 12) rfl ?_); (try (rw [drewN_self w104]; generalize hq_ : World.drewN w104 _ = w104; have n0_ := Aside0.mk (blk_at hq_ BK196.out); have n1_ := Aside0.mk (blk_at hq_ BK202.out); have n2_ := Aside0.mk (blk_at hq_ BK212.out); have n3_ := Aside0.mk (below_at hq_ HB.out); clear hq_ BK196 BK202 BK212 HB; have BK196 := n0_; have BK202 := n1_; have BK212 := n2_; have HB := n3_; clear n0_ n1_ n2_ n3_)); refine store_whole2 (t := 68) (g := gb212) ?hg ?hn (cells := #[.int .i64 ((rd_T68 l0_5 x11_3).f0), .int .i64 ((rd_T68 l0_5 x11_3).f1), .string ((rd_T68 l0_5 x11_3).f2), .string ((rd_T68 l0_5 x11_3).f3), .string ((rd_T68 l0_5 x11_3).f4), .int .i64 ((rd_T68 l0_5 x11_3).f5), .int .i64 ((rd_T68 l0_5 x11_3).f6), .int .i64 ((rd_T68 l0_5 x11_3).f7), .int .i64 ((rd_T68 l0_5 x11_3).f8), .bool ((rd_T68 l0_5 x11_3).f9), .int .i64 ((rd_T68 l0_5 x11_3).f10), .int .i64 ((rd_T68 l0_5 x11_3).f11), .int .i64 ((rd_T68 l0_5 x11_3).f12), .string ((rd_T68 l0_5 x11_3).f13), .int .i64 ((rd_T68 l0_5 x11_3).f14), .int .i64 ((rd_T68 l0_5 x11_3).f15), .string ((rd_T68 l0_5 x11_3).f16), .int .i64 ((rd_T68 l0_5 x11_3).f17), .int .i64 ((rd_T68 l0_5 x11_3).f18), .string ((rd_T68 l0_5 x11_3).f19)]) ?ho (blk_y BK212.out) (by kernel_rfl) rfl ?h1 ?_; (case hg => rfl); (case hn => rfl); (case ho => refine ⟨_, _, rfl, ?_, ?_⟩; all_goals (first | (with_reducible rfl) | (go_simp; done) | rfl | (go_simp; rfl))); (case h1 => first | rfl | simp [Value.oneCell']); intro w108 hw; have hg : w104.grownBy w108 (some gb212) := (by rw [hw]; exact grown_setRow _ _ _); have n0_ := Aside0.mk ((by rw [hw]; exact (setRow_other _ _ _ _ NB196_212.out).trans (blk_y BK196.out) : w108.heap[gb196]? = some (.cells #[.int .i64 a0_0, .int .i64 a0_1, .int .i64 a0_2, .int .i64 a0_3, .slice A0_4 l0_4.length c0_4, .slice (some ad211) l0_5.length c0_5] 56 (0, 0)))); have n1_ := Aside0.mk ((by rw [hw]; exact (setRow_other _ _ _ _ NB202_212.out).trans (blk_y BK202.out) : w108.heap[gb202]? = some (.cells #[.int .i64 t199, .int .i64 t200] 59 (0, 0)))); have n2_ := Aside0.mk ((by rw [hw]; exact setRow_heap _ _ _ _ _ _ (blk_y BK212.out) : w108.heap[gb212]? = some (.cells #[.int .i64 ((rd_T68 l0_5 x11_3).f0), .int .i64 ((rd_T68 l0_5 x11_3).f1), .string ((rd_T68 l0_5 x11_3).f2), .string ((rd_T68 l0_5 x11_3).f3), .string ((rd_T68 l0_5 x11_3).f4), .int .i64 ((rd_T68 l0_5 x11_3).f5), .int .i64 ((rd_T68 l0_5 x11_3).f6), .int .i64 ((rd_T68 l0_5 x11_3).f7), .int .i64 ((rd_T68 l0_5 x11_3).f8), .bool ((rd_T68 l0_5 x11_3).f9), .int .i64 ((rd_T68 l0_5 x11_3).f10), .int .i64 ((rd_T68 l0_5 x11_3).f11), .int .i64 ((rd_T68 l0_5 x11_3).f12), .string ((rd_T68 l0_5 x11_3).f13), .int .i64 ((rd_T68 l0_5 x11_3).f14), .int .i64 ((rd_T68 l0_5 x11_3).f15), .string ((rd_T68 l0_5 x11_3).f16), .int .i64 ((rd_T68 l0_5 x11_3).f17), .int .i64 ((rd_T68 l0_5 x11_3).f18), .string ((rd_T68 l0_5 x11_3).f19)] 68 (0, 0)))); have n3_ := Aside0.mk ((by rw [hw]; exact below_setRow (below_y HB.out) GE212.out _ : Below w.heap.size w w108)); clear BK196; clear BK202; clear BK212; clear HB; have BK196 := n0_; have BK202 := n1_; have BK212 := n2_; have HB := n3_; clear n0_ n1_ n2_ n3_; clear hg hw; have hcz109_0 := bc BK202.out 0 (.int .i64 t199) rfl; have hcz109_1 := bc BK202.out 1 (.int .i64 t200) rfl; have hfz109_0 := blk_frozen BK202.out 0; have hfz109_1 := blk_frozen BK202.out 1)); (try go_wp2))))
      go_roundg k3
      case measure => have := HJ6.out; have := HK2.out; have := HK3.out; omega
      case rel => exact ⟨(false), (wrap64 (x11_3 + 1)), (by first | rfl | (simp; done) | (simp [*]; done)), (by first | rfl | (simp; done) | (simp [*]; done)), H', ⟨by have := HJ6.out; have := HK2.out; have := HK3.out; omega⟩, ⟨by (with_reducible repeat (first | refine blk_drewN ?_ _ | refine blk_drew ?_ | refine blk_alloc ?_ _)); exact BK196.out⟩, ⟨by (with_reducible repeat (first | refine blk_drewN ?_ _ | refine blk_drew ?_ | refine blk_alloc ?_ _)); exact BK202.out⟩, ⟨by repeat (first | (with_reducible first | exact HB.out | apply below_alloc | apply pw_below_drewN | apply below_drew1 | refine below_set ?_ GE196.out | refine below_set ?_ GE202.out | refine below_set ?_ GE212.out) | exact HB.out)⟩⟩
  rw [if_pos c68] at H
  have c68b0 : (t199 == 2) = true := beq_iff_eq.mpr c68
  have c68b1 : (t199 != 2) = false := bne_eq_false_iff_eq.mpr c68
  clear c68
  by_cases c69 : ((rd_T68 l0_5 x11_3).f0) = t200
  rotate_left
  · rw [if_neg c69] at H
    have c69b0 : (((rd_T68 l0_5 x11_3).f0) == t200) = false := beq_eq_false_iff_ne.mpr c69
    have c69b1 : (((rd_T68 l0_5 x11_3).f0) != t200) = true := bne_iff_ne.mpr c69
    as_aux_lemma =>
      have H' := Aside0.mk H
      clear H
      have hnb93 := NB196_202.out
      have hnc93 := NB202_196.out
      have hcz94_0 := bc BK196.out 0 (.int .i64 a0_0) rfl
      have hcz94_1 := bc BK196.out 1 (.int .i64 a0_1) rfl
      have hcz94_2 := bc BK196.out 2 (.int .i64 a0_2) rfl
      have hcz94_3 := bc BK196.out 3 (.int .i64 a0_3) rfl
      have hcz94_4 := bc BK196.out 4 (.slice A0_4 l0_4.length c0_4) rfl
      have hcz94_5 := bc BK196.out 5 (.slice A0_5 l0_5.length c0_5) rfl
      have hfz94_0 := blk_frozen BK196.out 0
      have hfz94_1 := blk_frozen BK196.out 1
      have hfz94_2 := blk_frozen BK196.out 2
      have hfz94_3 := blk_frozen BK196.out 3
      have hfz94_4 := blk_frozen BK196.out 4
      have hfz94_5 := blk_frozen BK196.out 5
      have p211 : 0 ≤ (x11_3 : Int) := of_decide_eq_true (by first | (with_reducible assumption) | assumption)
      have q211 : x11_3 < (l0_5.length : Int) := of_decide_eq_true (by first | (with_reducible assumption) | assumption)
      obtain ⟨ad211, e211, hx211_0, hx211_1, hx211_2, hx211_3, hx211_4, hx211_5, hx211_6, hx211_7, hx211_8, hx211_9, hx211_10, hx211_11, hx211_12, hx211_13, hx211_14, hx211_15, hx211_16, hx211_17, hx211_18, hx211_19⟩ := at_T68 HR0_5.out x11_3 p211 q211
      cases e211
      replace hx211_0 := (HB.out.cell (World.block_lt_of_cell? w _ hx211_0)).trans hx211_0
      replace hx211_1 := (HB.out.cell (World.block_lt_of_cell? w _ hx211_1)).trans hx211_1
      replace hx211_2 := (HB.out.cell (World.block_lt_of_cell? w _ hx211_2)).trans hx211_2
      replace hx211_3 := (HB.out.cell (World.block_lt_of_cell? w _ hx211_3)).trans hx211_3
      replace hx211_4 := (HB.out.cell (World.block_lt_of_cell? w _ hx211_4)).trans hx211_4
      replace hx211_5 := (HB.out.cell (World.block_lt_of_cell? w _ hx211_5)).trans hx211_5
      replace hx211_6 := (HB.out.cell (World.block_lt_of_cell? w _ hx211_6)).trans hx211_6
      replace hx211_7 := (HB.out.cell (World.block_lt_of_cell? w _ hx211_7)).trans hx211_7
      replace hx211_8 := (HB.out.cell (World.block_lt_of_cell? w _ hx211_8)).trans hx211_8
      replace hx211_9 := (HB.out.cell (World.block_lt_of_cell? w _ hx211_9)).trans hx211_9
      replace hx211_10 := (HB.out.cell (World.block_lt_of_cell? w _ hx211_10)).trans hx211_10
      replace hx211_11 := (HB.out.cell (World.block_lt_of_cell? w _ hx211_11)).trans hx211_11
      replace hx211_12 := (HB.out.cell (World.block_lt_of_cell? w _ hx211_12)).trans hx211_12
      replace hx211_13 := (HB.out.cell (World.block_lt_of_cell? w _ hx211_13)).trans hx211_13
      replace hx211_14 := (HB.out.cell (World.block_lt_of_cell? w _ hx211_14)).trans hx211_14
      replace hx211_15 := (HB.out.cell (World.block_lt_of_cell? w _ hx211_15)).trans hx211_15
      replace hx211_16 := (HB.out.cell (World.block_lt_of_cell? w _ hx211_16)).trans hx211_16
      replace hx211_17 := (HB.out.cell (World.block_lt_of_cell? w _ hx211_17)).trans hx211_17
      replace hx211_18 := (HB.out.cell (World.block_lt_of_cell? w _ hx211_18)).trans hx211_18
      replace hx211_19 := (HB.out.cell (World.block_lt_of_cell? w _ hx211_19)).trans hx211_19
      replace p211 := eq_true p211
      replace q211 := eq_true q211
      ((try go_wp2_with (first | ((with_reducible refine gate_load (t := 68) rfl ?_); refine load_at2 (t := 68) ?hg ?ho (c0 := _) (cs := [_, _, _, _, _, _, _, _, _, _, _, _, _, _, _, _, _, _, _]) Try.underlying68 rfl (by kernel_rfl) hx211_0 ⟨hx211_1, hx211_2, hx211_3, hx211_4, hx211_5, hx211_6, hx211_7, hx211_8, hx211_9, hx211_10, hx211_11, hx211_12, hx211_13, hx211_14, hx211_15, hx211_16, hx211_17, hx211_18, hx211_19, trivial⟩ ?_; (case hg => rfl); (case ho => refine ⟨_, rfl, ?_⟩; first | (with_reducible rfl) | (go_simp; done))) | ((with_reducible refine gate_load (t := 56) rfl ?_); refine load_row3 (t := 56) (g := gb196) ?hg BK196.out ?ho ?hb Try.underlying56 rfl ?hs ?_; (case hg => rfl); (case ho => refine ⟨_, rfl, ?_⟩; first | (with_reducible rfl) | (go_simp; done)); (case hb => (with_reducible repeat (first | refine blk_drewN ?_ _ | refine blk_drew ?_ | refine blk_alloc ?_ _)); with_reducible exact BK196.out); (case hs => kernel_rfl)) | ((with_reducible refine gate_load (t := 68) rfl ?_); refine load_row3w_ (t := 68) (g := gb212) ?hg BK212.out ?ho ?hb Try.underlying68 rfl ?hs ?_; (case hg => first | rfl | (go_simp; done) | (simp [Region.wanted, yielded]; done)); (case ho => refine ⟨_, rfl, ?_⟩; first | (with_reducible rfl) | (go_simp; done)); (case hb => (with_reducible repeat (first | refine blk_drewN ?_ _ | refine blk_drew ?_ | refine blk_alloc ?_ _)); with_reducible exact BK212.out); (case hs => kernel_rfl)) | ((with_reducible refine gate_dst (N := 12) rfl ?_); refine box_event ?hg (N := 12) ?hd (cs := #[.int .i64 0, .int .i64 0, .string (⟨#[]⟩ : ByteArray), .string (⟨#[]⟩ : ByteArray), .string (⟨#[]⟩ : ByteArray), .int .i64 0, .int .i64 0, .int .i64 0, .int .i64 0, .bool false, .int .i64 0, .int .i64 0, .int .i64 0, .string (⟨#[]⟩ : ByteArray), .int .i64 0, .int .i64 0, .string (⟨#[]⟩ : ByteArray), .int .i64 0, .int .i64 0, .string (⟨#[]⟩ : ByteArray)]) (t := 68) ?hr ?_; (case hd => rfl); (case hg => rfl); (case hr => first | (go_simp; done) | (go_simp; rfl)); intro gb212 hg w95 hbox hb; have n0_ := Aside0.mk (blk_below (blk_y BK196.out) hb); have n1_ := Aside0.mk (blk_below (blk_y BK202.out) hb); have n2_ := Aside0.mk (below_step (below_y HB.out) hb); have n3_ := Aside0.mk (hbox); have n4_ := Aside0.mk ((by rw [hg]; exact (below_size (below_y HB.out)) : w.heap.size ≤ gb212)); have n5_ := Aside0.mk ((by rw [hg]; exact (below_size (below_y HB.out)) : w.heap.size ≤ gb212)); have n6_ := Aside0.mk ((by rw [hg]; exact Nat.ne_of_lt (blk_lt (blk_y BK196.out)) : gb196 ≠ gb212)); have n7_ := Aside0.mk ((by rw [hg]; exact Nat.ne_of_gt (blk_lt (blk_y BK196.out)) : gb212 ≠ gb196)); have n8_ := Aside0.mk ((by rw [hg]; exact Nat.ne_of_lt (blk_lt (blk_y BK202.out)) : gb202 ≠ gb212)); have n9_ := Aside0.mk ((by rw [hg]; exact Nat.ne_of_gt (blk_lt (blk_y BK202.out)) : gb212 ≠ gb202)); clear BK196; clear BK202; clear HB; have BK196 := n0_; have BK202 := n1_; have HB := n2_; have BK212 := n3_; have GW212 := n4_; have GE212 := n5_; have NB196_212 := n6_; have NB212_196 := n7_; have NB202_212 := n8_; have NB212_202 := n9_; clear n0_ n1_ n2_ n3_ n4_ n5_ n6_ n7_ n8_ n9_; clear hb hbox hg; have hnb96 := NB212_196.out; have hnc96 := NB196_212.out; have hnb97 := NB212_202.out; have hnc97 := NB202_212.out; have hcz98_0 := bc BK212.out 0 (.int .i64 0) rfl; have hcz98_1 := bc BK212.out 1 (.int .i64 0) rfl; have hcz98_2 := bc BK212.out 2 (.string (⟨#[]⟩ : ByteArray)) rfl; have hcz98_3 := bc BK212.out 3 (.string (⟨#[]⟩ : ByteArray)) rfl; have hcz98_4 := bc BK212.out 4 (.string (⟨#[]⟩ : ByteArray)) rfl; have hcz98_5 := bc BK212.out 5 (.int .i64 0) rfl; have hcz98_6 := bc BK212.out 6 (.int .i64 0) rfl; have hcz98_7 := bc BK212.out 7 (.int .i64 0) rfl; have hcz98_8 := bc BK212.out 8 (.int .i64 0) rfl; have hcz98_9 := bc BK212.out 9 (.bool false) rfl; have hcz98_10 := bc BK212.out 10 (.int .i64 0) rfl; have hcz98_11 := bc BK212.out 11 (.int .i64 0) rfl; have hcz98_12 := bc BK212.out 12 (.int .i64 0) rfl; have hcz98_13 := bc BK212.out 13 (.string (⟨#[]⟩ : ByteArray)) rfl; have hcz98_14 := bc BK212.out 14 (.int .i64 0) rfl; have hcz98_15 := bc BK212.out 15 (.int .i64 0) rfl; have hcz98_16 := bc BK212.out 16 (.string (⟨#[]⟩ : ByteArray)) rfl; have hcz98_17 := bc BK212.out 17 (.int .i64 0) rfl; have hcz98_18 := bc BK212.out 18 (.int .i64 0) rfl; have hcz98_19 := bc BK212.out 19 (.string (⟨#[]⟩ : ByteArray)) rfl; have hfz98_0 := blk_frozen BK212.out 0; have hfz98_1 := blk_frozen BK212.out 1; have hfz98_2 := blk_frozen BK212.out 2; have hfz98_3 := blk_frozen BK212.out 3; have hfz98_4 := blk_frozen BK212.out 4; have hfz98_5 := blk_frozen BK212.out 5; have hfz98_6 := blk_frozen BK212.out 6; have hfz98_7 := blk_frozen BK212.out 7; have hfz98_8 := blk_frozen BK212.out 8; have hfz98_9 := blk_frozen BK212.out 9; have hfz98_10 := blk_frozen BK212.out 10; have hfz98_11 := blk_frozen BK212.out 11; have hfz98_12 := blk_frozen BK212.out 12; have hfz98_13 := blk_frozen BK212.out 13; have hfz98_14 := blk_frozen BK212.out 14; have hfz98_15 := blk_frozen BK212.out 15; have hfz98_16 := blk_frozen BK212.out 16; have hfz98_17 := blk_frozen BK212.out 17; have hfz98_18 := blk_frozen BK212.out 18; have hfz98_19 := blk_frozen BK212.out 19) | ((with_reducible refine gate_store (t := 68) (p := 12) rfl ?_); (try (rw [drewN_self w95]; generalize hq_ : World.drewN w95 _ = w95; have n0_ := Aside0.mk (blk_at hq_ BK196.out); have n1_ := Aside0.mk (blk_at hq_ BK202.out); have n2_ := Aside0.mk (blk_at hq_ BK212.out); have n3_ := Aside0.mk (below_at hq_ HB.out); clear hq_ BK196 BK202 BK212 HB; have BK196 := n0_; have BK202 := n1_; have BK212 := n2_; have HB := n3_; clear n0_ n1_ n2_ n3_)); refine store_whole2 (t := 68) (g := gb212) ?hg ?hn (cells := #[.int .i64 ((rd_T68 l0_5 x11_3).f0), .int .i64 ((rd_T68 l0_5 x11_3).f1), .string ((rd_T68 l0_5 x11_3).f2), .string ((rd_T68 l0_5 x11_3).f3), .string ((rd_T68 l0_5 x11_3).f4), .int .i64 ((rd_T68 l0_5 x11_3).f5), .int .i64 ((rd_T68 l0_5 x11_3).f6), .int .i64 ((rd_T68 l0_5 x11_3).f7), .int .i64 ((rd_T68 l0_5 x11_3).f8), .bool ((rd_T68 l0_5 x11_3).f9), .int .i64 ((rd_T68 l0_5 x11_3).f10), .int .i64 ((rd_T68 l0_5 x11_3).f11), .int .i64 ((rd_T68 l0_5 x11_3).f12), .string ((rd_T68 l0_5 x11_3).f13), .int .i64 ((rd_T68 l0_5 x11_3).f14), .int .i64 ((rd_T68 l0_5 x11_3).f15), .string ((rd_T68 l0_5 x11_3).f16), .int .i64 ((rd_T68 l0_5 x11_3).f17), .int .i64 ((rd_T68 l0_5 x11_3).f18), .string ((rd_T68 l0_5 x11_3).f19)]) ?ho (blk_y BK212.out) (by kernel_rfl) rfl ?h1 ?_; (case hg => rfl); (case hn => rfl); (case ho => refine ⟨_, _, rfl, ?_, ?_⟩; all_goals (first | (with_reducible rfl) | (go_simp; done) | rfl | (go_simp; rfl))); (case h1 => first | rfl | simp [Value.oneCell']); intro w99 hw; have hg : w95.grownBy w99 (some gb212) := (by rw [hw]; exact grown_setRow _ _ _); have n0_ := Aside0.mk ((by rw [hw]; exact (setRow_other _ _ _ _ NB196_212.out).trans (blk_y BK196.out) : w99.heap[gb196]? = some (.cells #[.int .i64 a0_0, .int .i64 a0_1, .int .i64 a0_2, .int .i64 a0_3, .slice A0_4 l0_4.length c0_4, .slice (some ad211) l0_5.length c0_5] 56 (0, 0)))); have n1_ := Aside0.mk ((by rw [hw]; exact (setRow_other _ _ _ _ NB202_212.out).trans (blk_y BK202.out) : w99.heap[gb202]? = some (.cells #[.int .i64 t199, .int .i64 t200] 59 (0, 0)))); have n2_ := Aside0.mk ((by rw [hw]; exact setRow_heap _ _ _ _ _ _ (blk_y BK212.out) : w99.heap[gb212]? = some (.cells #[.int .i64 ((rd_T68 l0_5 x11_3).f0), .int .i64 ((rd_T68 l0_5 x11_3).f1), .string ((rd_T68 l0_5 x11_3).f2), .string ((rd_T68 l0_5 x11_3).f3), .string ((rd_T68 l0_5 x11_3).f4), .int .i64 ((rd_T68 l0_5 x11_3).f5), .int .i64 ((rd_T68 l0_5 x11_3).f6), .int .i64 ((rd_T68 l0_5 x11_3).f7), .int .i64 ((rd_T68 l0_5 x11_3).f8), .bool ((rd_T68 l0_5 x11_3).f9), .int .i64 ((rd_T68 l0_5 x11_3).f10), .int .i64 ((rd_T68 l0_5 x11_3).f11), .int .i64 ((rd_T68 l0_5 x11_3).f12), .string ((rd_T68 l0_5 x11_3).f13), .int .i64 ((rd_T68 l0_5 x11_3).f14), .int .i64 ((rd_T68 l0_5 x11_3).f15), .string ((rd_T68 l0_5 x11_3).f16), .int .i64 ((rd_T68 l0_5 x11_3).f17), .int .i64 ((rd_T68 l0_5 x11_3).f18), .string ((rd_T68 l0_5 x11_3).f19)] 68 (0, 0)))); have n3_ := Aside0.mk ((by rw [hw]; exact below_setRow (below_y HB.out) GE212.out _ : Below w.heap.size w w99)); clear BK196; clear BK202; clear BK212; clear HB; have BK196 := n0_; have BK202 := n1_; have BK212 := n2_; have HB := n3_; clear n0_ n1_ n2_ n3_; clear hg hw; have hcz100_0 := bc BK202.out 0 (.int .i64 t199) rfl; have hcz100_1 := bc BK202.out 1 (.int .i64 t200) rfl; have hfz100_0 := blk_frozen BK202.out 0; have hfz100_1 := blk_frozen BK202.out 1; have hcz101_0 := bc BK212.out 0 (.int .i64 ((rd_T68 l0_5 x11_3).f0)) rfl; have hcz101_1 := bc BK212.out 1 (.int .i64 ((rd_T68 l0_5 x11_3).f1)) rfl; have hcz101_2 := bc BK212.out 2 (.string ((rd_T68 l0_5 x11_3).f2)) rfl; have hcz101_3 := bc BK212.out 3 (.string ((rd_T68 l0_5 x11_3).f3)) rfl; have hcz101_4 := bc BK212.out 4 (.string ((rd_T68 l0_5 x11_3).f4)) rfl; have hcz101_5 := bc BK212.out 5 (.int .i64 ((rd_T68 l0_5 x11_3).f5)) rfl; have hcz101_6 := bc BK212.out 6 (.int .i64 ((rd_T68 l0_5 x11_3).f6)) rfl; have hcz101_7 := bc BK212.out 7 (.int .i64 ((rd_T68 l0_5 x11_3).f7)) rfl; have hcz101_8 := bc BK212.out 8 (.int .i64 ((rd_T68 l0_5 x11_3).f8)) rfl; have hcz101_9 := bc BK212.out 9 (.bool ((rd_T68 l0_5 x11_3).f9)) rfl; have hcz101_10 := bc BK212.out 10 (.int .i64 ((rd_T68 l0_5 x11_3).f10)) rfl; have hcz101_11 := bc BK212.out 11 (.int .i64 ((rd_T68 l0_5 x11_3).f11)) rfl; have hcz101_12 := bc BK212.out 12 (.int .i64 ((rd_T68 l0_5 x11_3).f12)) rfl; have hcz101_13 := bc BK212.out 13 (.string ((rd_T68 l0_5 x11_3).f13)) rfl; have hcz101_14 := bc BK212.out 14 (.int .i64 ((rd_T68 l0_5 x11_3).f14)) rfl; have hcz101_15 := bc BK212.out 15 (.int .i64 ((rd_T68 l0_5 x11_3).f15)) rfl; have hcz101_16 := bc BK212.out 16 (.string ((rd_T68 l0_5 x11_3).f16)) rfl; have hcz101_17 := bc BK212.out 17 (.int .i64 ((rd_T68 l0_5 x11_3).f17)) rfl; have hcz101_18 := bc BK212.out 18 (.int .i64 ((rd_T68 l0_5 x11_3).f18)) rfl; have hcz101_19 := bc BK212.out 19 (.string ((rd_T68 l0_5 x11_3).f19)) rfl; have hfz101_0 := blk_frozen BK212.out 0; have hfz101_1 := blk_frozen BK212.out 1; have hfz101_2 := blk_frozen BK212.out 2; have hfz101_3 := blk_frozen BK212.out 3; have hfz101_4 := blk_frozen BK212.out 4; have hfz101_5 := blk_frozen BK212.out 5; have hfz101_6 := blk_frozen BK212.out 6; have hfz101_7 := blk_frozen BK212.out 7; have hfz101_8 := blk_frozen BK212.out 8; have hfz101_9 := blk_frozen BK212.out 9; have hfz101_10 := blk_frozen BK212.out 10; have hfz101_11 := blk_frozen BK212.out 11; have hfz101_12 := blk_frozen BK212.out 12; have hfz101_13 := blk_frozen BK212.out 13; have hfz101_14 := blk_frozen BK212.out 14; have hfz101_15 := blk_frozen BK212.out 15; have hfz101_16 := blk_frozen BK212.out 16; have hfz101_17 := blk_frozen BK212.out 17; have hfz101_18 := blk_frozen BK212.out 18; have hfz101_19 := blk_frozen BK212.out 19))); iterate 4 (try ((with_reducible refine is_region_ ?_); go_quiet (first | ((with_reducible refine gate_load (t := 68) rfl ?_); refine load_at2 (t := 68) ?hg ?ho (c0 := _) (cs := [_, _, _, _, _, _, _, _, _, _, _, _, _, _, _, _, _, _, _]) Try.underlying68 rfl (by kernel_rfl) hx211_0 ⟨hx211_1, hx211_2, hx211_3, hx211_4, hx211_5, hx211_6, hx211_7, hx211_8, hx211_9, hx211_10, hx211_11, hx211_12, hx211_13, hx211_14, hx211_15, hx211_16, hx211_17, hx211_18, hx211_19, trivial⟩ ?_; (case hg => rfl); (case ho => refine ⟨_, rfl, ?_⟩; first | (with_reducible rfl) | (go_simp; done))) | ((with_reducible refine gate_load (t := 56) rfl ?_); refine load_row3 (t := 56) (g := gb196) ?hg BK196.out ?ho ?hb Try.underlying56 rfl ?hs ?_; (case hg => rfl); (case ho => refine ⟨_, rfl, ?_⟩; first | (with_reducible rfl) | (go_simp; done)); (case hb => (with_reducible repeat (first | refine blk_drewN ?_ _ | refine blk_drew ?_ | refine blk_alloc ?_ _)); with_reducible exact BK196.out); (case hs => kernel_rfl)) | ((with_reducible refine gate_load (t := 68) rfl ?_); refine load_row3w_ (t := 68) (g := gb212) ?hg BK212.out ?ho ?hb Try.underlying68 rfl ?hs ?_; (case hg => first | rfl | (go_simp; done) | (simp [Region.wanted, yielded]; done)); (case ho => refine ⟨_, rfl, ?_⟩; first | (with_reducible rfl) | (go_simp; done)); (case hb => (with_reducible repeat (first | refine blk_drewN ?_ _ | refine blk_drew ?_ | refine blk_alloc ?_ _)); with_reducible exact BK212.out); (case hs => kernel_rfl)) | ((with_reducible refine gate_dst (N := 12) rfl ?_); refine box_event ?hg (N := 12) ?hd (cs := #[.int .i64 0, .int .i64 0, .string (⟨#[]⟩ : ByteArray), .string (⟨#[]⟩ : ByteArray), .string (⟨#[]⟩ : ByteArray), .int .i64 0, .int .i64 0, .int .i64 0, .int .i64 0, .bool false, .int .i64 0, .int .i64 0, .int .i64 0, .string (⟨#[]⟩ : ByteArray), .int .i64 0, .int .i64 0, .string (⟨#[]⟩ : ByteArray), .int .i64 0, .int .i64 0, .string (⟨#[]⟩ : ByteArray)]) (t := 68) ?hr ?_; (case hd => rfl); (case hg => rfl); (case hr => first | (go_simp; done) | (go_simp; rfl)); intro gb212 hg w95 hbox hb; have n0_ := Aside0.mk (blk_below (blk_y BK196.out) hb); have n1_ := Aside0.mk (blk_below (blk_y BK202.out) hb); have n2_ := Aside0.mk (below_step (below_y HB.out) hb); have n3_ := Aside0.mk (hbox); have n4_ := Aside0.mk ((by rw [hg]; exact (below_size (below_y HB.out)) : w.heap.size ≤ gb212)); have n5_ := Aside0.mk ((by rw [hg]; exact (below_size (below_y HB.out)) : w.heap.size ≤ gb212)); have n6_ := Aside0.mk ((by rw [hg]; exact Nat.ne_of_lt (blk_lt (blk_y BK196.out)) : gb196 ≠ gb212)); have n7_ := Aside0.mk ((by rw [hg]; exact Nat.ne_of_gt (blk_lt (blk_y BK196.out)) : gb212 ≠ gb196)); have n8_ := Aside0.mk ((by rw [hg]; exact Nat.ne_of_lt (blk_lt (blk_y BK202.out)) : gb202 ≠ gb212)); have n9_ := Aside0.mk ((by rw [hg]; exact Nat.ne_of_gt (blk_lt (blk_y BK202.out)) : gb212 ≠ gb202)); clear BK196; clear BK202; clear HB; have BK196 := n0_; have BK202 := n1_; have HB := n2_; have BK212 := n3_; have GW212 := n4_; have GE212 := n5_; have NB196_212 := n6_; have NB212_196 := n7_; have NB202_212 := n8_; have NB212_202 := n9_; clear n0_ n1_ n2_ n3_ n4_ n5_ n6_ n7_ n8_ n9_; clear hb hbox hg; have hnb96 := NB212_196.out; have hnc96 := NB196_212.out; have hnb97 := NB212_202.out; have hnc97 := NB202_212.out; have hcz98_0 := bc BK212.out 0 (.int .i64 0) rfl; have hcz98_1 := bc BK212.out 1 (.int .i64 0) rfl; have hcz98_2 := bc BK212.out 2 (.string (⟨#[]⟩ : ByteArray)) rfl; have hcz98_3 := bc BK212.out 3 (.string (⟨#[]⟩ : ByteArray)) rfl; have hcz98_4 := bc BK212.out 4 (.string (⟨#[]⟩ : ByteArray)) rfl; have hcz98_5 := bc BK212.out 5 (.int .i64 0) rfl; have hcz98_6 := bc BK212.out 6 (.int .i64 0) rfl; have hcz98_7 := bc BK212.out 7 (.int .i64 0) rfl; have hcz98_8 := bc BK212.out 8 (.int .i64 0) rfl; have hcz98_9 := bc BK212.out 9 (.bool false) rfl; have hcz98_10 := bc BK212.out 10 (.int .i64 0) rfl; have hcz98_11 := bc BK212.out 11 (.int .i64 0) rfl; have hcz98_12 := bc BK212.out 12 (.int .i64 0) rfl; have hcz98_13 := bc BK212.out 13 (.string (⟨#[]⟩ : ByteArray)) rfl; have hcz98_14 := bc BK212.out 14 (.int .i64 0) rfl; have hcz98_15 := bc BK212.out 15 (.int .i64 0) rfl; have hcz98_16 := bc BK212.out 16 (.string (⟨#[]⟩ : ByteArray)) rfl; have hcz98_17 := bc BK212.out 17 (.int .i64 0) rfl; have hcz98_18 := bc BK212.out 18 (.int .i64 0) rfl; have hcz98_19 := bc BK212.out 19 (.string (⟨#[]⟩ : ByteArray)) rfl; have hfz98_0 := blk_frozen BK212.out 0; have hfz98_1 := blk_frozen BK212.out 1; have hfz98_2 := blk_frozen BK212.out 2; have hfz98_3 := blk_frozen BK212.out 3; have hfz98_4 := blk_frozen BK212.out 4; have hfz98_5 := blk_frozen BK212.out 5; have hfz98_6 := blk_frozen BK212.out 6; have hfz98_7 := blk_frozen BK212.out 7; have hfz98_8 := blk_frozen BK212.out 8; have hfz98_9 := blk_frozen BK212.out 9; have hfz98_10 := blk_frozen BK212.out 10; have hfz98_11 := blk_frozen BK212.out 11; have hfz98_12 := blk_frozen BK212.out 12; have hfz98_13 := blk_frozen BK212.out 13; have hfz98_14 := blk_frozen BK212.out 14; have hfz98_15 := blk_frozen BK212.out 15; have hfz98_16 := blk_frozen BK212.out 16; have hfz98_17 := blk_frozen BK212.out 17; have hfz98_18 := blk_frozen BK212.out 18; have hfz98_19 := blk_frozen BK212.out 19) | ((with_reducible refine gate_store (t := 68) (p := 12) rfl ?_); (try (rw [drewN_self w95]; generalize hq_ : World.drewN w95 _ = w95; have n0_ := Aside0.mk (blk_at hq_ BK196.out); have n1_ := Aside0.mk (blk_at hq_ BK202.out); have n2_ := Aside0.mk (blk_at hq_ BK212.out); have n3_ := Aside0.mk (below_at hq_ HB.out); clear hq_ BK196 BK202 BK212 HB; have BK196 := n0_; have BK202 := n1_; have BK212 := n2_; have HB := n3_; clear n0_ n1_ n2_ n3_)); refine store_whole2 (t := 68) (g := gb212) ?hg ?hn (cells := #[.int .i64 ((rd_T68 l0_5 x11_3).f0), .int .i64 ((rd_T68 l0_5 x11_3).f1), .string ((rd_T68 l0_5 x11_3).f2), .string ((rd_T68 l0_5 x11_3).f3), .string ((rd_T68 l0_5 x11_3).f4), .int .i64 ((rd_T68 l0_5 x11_3).f5), .int .i64 ((rd_T68 l0_5 x11_3).f6), .int .i64 ((rd_T68 l0_5 x11_3).f7), .int .i64 ((rd_T68 l0_5 x11_3).f8), .bool ((rd_T68 l0_5 x11_3).f9), .int .i64 ((rd_T68 l0_5 x11_3).f10), .int .i64 ((rd_T68 l0_5 x11_3).f11), .int .i64 ((rd_T68 l0_5 x11_3).f12), .string ((rd_T68 l0_5 x11_3).f13), .int .i64 ((rd_T68 l0_5 x11_3).f14), .int .i64 ((rd_T68 l0_5 x11_3).f15), .string ((rd_T68 l0_5 x11_3).f16), .int .i64 ((rd_T68 l0_5 x11_3).f17), .int .i64 ((rd_T68 l0_5 x11_3).f18), .string ((rd_T68 l0_5 x11_3).f19)]) ?ho (blk_y BK212.out) (by kernel_rfl) rfl ?h1 ?_; (case hg => rfl); (case hn => rfl); (case ho => refine ⟨_, _, rfl, ?_, ?_⟩; all_goals (first | (with_reducible rfl) | (go_simp; done) | rfl | (go_simp; rfl))); (case h1 => first | rfl | simp [Value.oneCell']); intro w99 hw; have hg : w95.grownBy w99 (some gb212) := (by rw [hw]; exact grown_setRow _ _ _); have n0_ := Aside0.mk ((by rw [hw]; exact (setRow_other _ _ _ _ NB196_212.out).trans (blk_y BK196.out) : w99.heap[gb196]? = some (.cells #[.int .i64 a0_0, .int .i64 a0_1, .int .i64 a0_2, .int .i64 a0_3, .slice A0_4 l0_4.length c0_4, .slice (some ad211) l0_5.length c0_5] 56 (0, 0)))); have n1_ := Aside0.mk ((by rw [hw]; exact (setRow_other _ _ _ _ NB202_212.out).trans (blk_y BK202.out) : w99.heap[gb202]? = some (.cells #[.int .i64 t199, .int .i64 t200] 59 (0, 0)))); have n2_ := Aside0.mk ((by rw [hw]; exact setRow_heap _ _ _ _ _ _ (blk_y BK212.out) : w99.heap[gb212]? = some (.cells #[.int .i64 ((rd_T68 l0_5 x11_3).f0), .int .i64 ((rd_T68 l0_5 x11_3).f1), .string ((rd_T68 l0_5 x11_3).f2), .string ((rd_T68 l0_5 x11_3).f3), .string ((rd_T68 l0_5 x11_3).f4), .int .i64 ((rd_T68 l0_5 x11_3).f5), .int .i64 ((rd_T68 l0_5 x11_3).f6), .int .i64 ((rd_T68 l0_5 x11_3).f7), .int .i64 ((rd_T68 l0_5 x11_3).f8), .bool ((rd_T68 l0_5 x11_3).f9), .int .i64 ((rd_T68 l0_5 x11_3).f10), .int .i64 ((rd_T68 l0_5 x11_3).f11), .int .i64 ((rd_T68 l0_5 x11_3).f12), .string ((rd_T68 l0_5 x11_3).f13), .int .i64 ((rd_T68 l0_5 x11_3).f14), .int .i64 ((rd_T68 l0_5 x11_3).f15), .string ((rd_T68 l0_5 x11_3).f16), .int .i64 ((rd_T68 l0_5 x11_3).f17), .int .i64 ((rd_T68 l0_5 x11_3).f18), .string ((rd_T68 l0_5 x11_3).f19)] 68 (0, 0)))); have n3_ := Aside0.mk ((by rw [hw]; exact below_setRow (below_y HB.out) GE212.out _ : Below w.heap.size w w99)); clear BK196; clear BK202; clear BK212; clear HB; have BK196 := n0_; have BK202 := n1_; have BK212 := n2_; have HB := n3_; clear n0_ n1_ n2_ n3_; clear hg hw; have hcz100_0 := bc BK202.out 0 (.int .i64 t199) rfl; have hcz100_1 := bc BK202.out 1 (.int .i64 t200) rfl; have hfz100_0 := blk_frozen BK202.out 0; have hfz100_1 := blk_frozen BK202.out 1; have hcz101_0 := bc BK212.out 0 (.int .i64 ((rd_T68 l0_5 x11_3).f0)) rfl; have hcz101_1 := bc BK212.out 1 (.int .i64 ((rd_T68 l0_5 x11_3).f1)) rfl; have hcz101_2 := bc BK212.out 2 (.string ((rd_T68 l0_5 x11_3).f2)) rfl; have hcz101_3 := bc BK212.out 3 (.string ((rd_T68 l0_5 x11_3).f3)) rfl; have hcz101_4 := bc BK212.out 4 (.string ((rd_T68 l0_5 x11_3).f4)) rfl; have hcz101_5 := bc BK212.out 5 (.int .i64 ((rd_T68 l0_5 x11_3).f5)) rfl; have hcz101_6 := bc BK212.out 6 (.int .i64 ((rd_T68 l0_5 x11_3).f6)) rfl; have hcz101_7 := bc BK212.out 7 (.int .i64 ((rd_T68 l0_5 x11_3).f7)) rfl; have hcz101_8 := bc BK212.out 8 (.int .i64 ((rd_T68 l0_5 x11_3).f8)) rfl; have hcz101_9 := bc BK212.out 9 (.bool ((rd_T68 l0_5 x11_3).f9)) rfl; have hcz101_10 := bc BK212.out 10 (.int .i64 ((rd_T68 l0_5 x11_3).f10)) rfl; have hcz101_11 := bc BK212.out 11 (.int .i64 ((rd_T68 l0_5 x11_3).f11)) rfl; have hcz101_12 := bc BK212.out 12 (.int .i64 ((rd_T68 l0_5 x11_3).f12)) rfl; have hcz101_13 := bc BK212.out 13 (.string ((rd_T68 l0_5 x11_3).f13)) rfl; have hcz101_14 := bc BK212.out 14 (.int .i64 ((rd_T68 l0_5 x11_3).f14)) rfl; have hcz101_15 := bc BK212.out 15 (.int .i64 ((rd_T68 l0_5 x11_3).f15)) rfl; have hcz101_16 := bc BK212.out 16 (.string ((rd_T68 l0_5 x11_3).f16)) rfl; have hcz101_17 := bc BK212.out 17 (.int .i64 ((rd_T68 l0_5 x11_3).f17)) rfl; have hcz101_18 := bc BK212.out 18 (.int .i64 ((rd_T68 l0_5 x11_3).f18)) rfl; have hcz101_19 := bc BK212.out 19 (.string ((rd_T68 l0_5 x11_3).f19)) rfl; have hfz101_0 := blk_frozen BK212.out 0; have hfz101_1 := blk_frozen BK212.out 1; have hfz101_2 := blk_frozen BK212.out 2; have hfz101_3 := blk_frozen BK212.out 3; have hfz101_4 := blk_frozen BK212.out 4; have hfz101_5 := blk_frozen BK212.out 5; have hfz101_6 := blk_frozen BK212.out 6; have hfz101_7 := blk_frozen BK212.out 7; have hfz101_8 := blk_frozen BK212.out 8; have hfz101_9 := blk_frozen BK212.out 9; have hfz101_10 := blk_frozen BK212.out 10; have hfz101_11 := blk_frozen BK212.out 11; have hfz101_12 := blk_frozen BK212.out 12; have hfz101_13 := blk_frozen BK212.out 13; have hfz101_14 := blk_frozen BK212.out 14; have hfz101_15 := blk_frozen BK212.out 15; have hfz101_16 := blk_frozen BK212.out 16; have hfz101_17 := blk_frozen BK212.out 17; have hfz101_18 := blk_frozen BK212.out 18; have hfz101_19 := blk_frozen BK212.out 19)); (try go_wp2))))
      go_roundg k3
      case measure => have := HJ6.out; have := HK2.out; have := HK3.out; omega
      case rel => exact ⟨(false), (wrap64 (x11_3 + 1)), (by first | rfl | (simp; done) | (simp [*]; done)), (by first | rfl | (simp; done) | (simp [*]; done)), H', ⟨by have := HJ6.out; have := HK2.out; have := HK3.out; omega⟩, ⟨by (with_reducible repeat (first | refine blk_drewN ?_ _ | refine blk_drew ?_ | refine blk_alloc ?_ _)); exact BK196.out⟩, ⟨by (with_reducible repeat (first | refine blk_drewN ?_ _ | refine blk_drew ?_ | refine blk_alloc ?_ _)); exact BK202.out⟩, ⟨by repeat (first | (with_reducible first | exact HB.out | apply below_alloc | apply pw_below_drewN | apply below_drew1 | refine below_set ?_ GE196.out | refine below_set ?_ GE202.out | refine below_set ?_ GE212.out) | exact HB.out)⟩⟩
  rw [if_pos c69] at H
  have c69b0 : (((rd_T68 l0_5 x11_3).f0) == t200) = true := beq_iff_eq.mpr c69
  have c69b1 : (((rd_T68 l0_5 x11_3).f0) != t200) = false := bne_eq_false_iff_eq.mpr c69
  clear c69
  replace H := Option.bind_eq_some_iff.mp H
  obtain ⟨t213, A700, H⟩ := H
  replace H : (if t213 = true then (newsreellaw43_PickWhen.l1 k3 a1 (decide (((rd_T68 l0_5 x11_3).f12) ≤ a1)) (wrap64 (x11_3 + 1)) a0_0 a0_1 a0_2 a0_3 l0_4 l0_5 t199 t200) else (newsreellaw43_PickWhen.l1 k3 a1 false (wrap64 (x11_3 + 1)) a0_0 a0_1 a0_2 a0_3 l0_4 l0_5 t199 t200)) = some r := H
  have A70 := Aside0.mk A700
  clear A700
  by_cases c71 : t213 = true
  rotate_left
  · replace c71 := Bool.eq_false_iff.mpr c71
    subst c71
    have H1 : (newsreellaw43_PickWhen.l1 k3 a1 false (wrap64 (x11_3 + 1)) a0_0 a0_1 a0_2 a0_3 l0_4 l0_5 t199 t200) = some r := by rw [if_neg (show ¬ (false = true) by decide)] at H; exact H
    clear H
    have H := H1
    clear H1
    as_aux_lemma =>
      have H' := Aside0.mk H
      clear H
      have hnb83 := NB196_202.out
      have hnc83 := NB202_196.out
      have hcz84_0 := bc BK196.out 0 (.int .i64 a0_0) rfl
      have hcz84_1 := bc BK196.out 1 (.int .i64 a0_1) rfl
      have hcz84_2 := bc BK196.out 2 (.int .i64 a0_2) rfl
      have hcz84_3 := bc BK196.out 3 (.int .i64 a0_3) rfl
      have hcz84_4 := bc BK196.out 4 (.slice A0_4 l0_4.length c0_4) rfl
      have hcz84_5 := bc BK196.out 5 (.slice A0_5 l0_5.length c0_5) rfl
      have hfz84_0 := blk_frozen BK196.out 0
      have hfz84_1 := blk_frozen BK196.out 1
      have hfz84_2 := blk_frozen BK196.out 2
      have hfz84_3 := blk_frozen BK196.out 3
      have hfz84_4 := blk_frozen BK196.out 4
      have hfz84_5 := blk_frozen BK196.out 5
      have p211 : 0 ≤ (x11_3 : Int) := of_decide_eq_true (by first | (with_reducible assumption) | assumption)
      have q211 : x11_3 < (l0_5.length : Int) := of_decide_eq_true (by first | (with_reducible assumption) | assumption)
      obtain ⟨ad211, e211, hx211_0, hx211_1, hx211_2, hx211_3, hx211_4, hx211_5, hx211_6, hx211_7, hx211_8, hx211_9, hx211_10, hx211_11, hx211_12, hx211_13, hx211_14, hx211_15, hx211_16, hx211_17, hx211_18, hx211_19⟩ := at_T68 HR0_5.out x11_3 p211 q211
      cases e211
      replace hx211_0 := (HB.out.cell (World.block_lt_of_cell? w _ hx211_0)).trans hx211_0
      replace hx211_1 := (HB.out.cell (World.block_lt_of_cell? w _ hx211_1)).trans hx211_1
      replace hx211_2 := (HB.out.cell (World.block_lt_of_cell? w _ hx211_2)).trans hx211_2
      replace hx211_3 := (HB.out.cell (World.block_lt_of_cell? w _ hx211_3)).trans hx211_3
      replace hx211_4 := (HB.out.cell (World.block_lt_of_cell? w _ hx211_4)).trans hx211_4
      replace hx211_5 := (HB.out.cell (World.block_lt_of_cell? w _ hx211_5)).trans hx211_5
      replace hx211_6 := (HB.out.cell (World.block_lt_of_cell? w _ hx211_6)).trans hx211_6
      replace hx211_7 := (HB.out.cell (World.block_lt_of_cell? w _ hx211_7)).trans hx211_7
      replace hx211_8 := (HB.out.cell (World.block_lt_of_cell? w _ hx211_8)).trans hx211_8
      replace hx211_9 := (HB.out.cell (World.block_lt_of_cell? w _ hx211_9)).trans hx211_9
      replace hx211_10 := (HB.out.cell (World.block_lt_of_cell? w _ hx211_10)).trans hx211_10
      replace hx211_11 := (HB.out.cell (World.block_lt_of_cell? w _ hx211_11)).trans hx211_11
      replace hx211_12 := (HB.out.cell (World.block_lt_of_cell? w _ hx211_12)).trans hx211_12
      replace hx211_13 := (HB.out.cell (World.block_lt_of_cell? w _ hx211_13)).trans hx211_13
      replace hx211_14 := (HB.out.cell (World.block_lt_of_cell? w _ hx211_14)).trans hx211_14
      replace hx211_15 := (HB.out.cell (World.block_lt_of_cell? w _ hx211_15)).trans hx211_15
      replace hx211_16 := (HB.out.cell (World.block_lt_of_cell? w _ hx211_16)).trans hx211_16
      replace hx211_17 := (HB.out.cell (World.block_lt_of_cell? w _ hx211_17)).trans hx211_17
      replace hx211_18 := (HB.out.cell (World.block_lt_of_cell? w _ hx211_18)).trans hx211_18
      replace hx211_19 := (HB.out.cell (World.block_lt_of_cell? w _ hx211_19)).trans hx211_19
      replace p211 := eq_true p211
      replace q211 := eq_true q211
      go_upto_region 20 with (first | ((with_reducible refine gate_load (t := 68) rfl ?_); refine load_at2 (t := 68) ?hg ?ho (c0 := _) (cs := [_, _, _, _, _, _, _, _, _, _, _, _, _, _, _, _, _, _, _]) Try.underlying68 rfl (by kernel_rfl) hx211_0 ⟨hx211_1, hx211_2, hx211_3, hx211_4, hx211_5, hx211_6, hx211_7, hx211_8, hx211_9, hx211_10, hx211_11, hx211_12, hx211_13, hx211_14, hx211_15, hx211_16, hx211_17, hx211_18, hx211_19, trivial⟩ ?_; (case hg => rfl); (case ho => refine ⟨_, rfl, ?_⟩; first | (with_reducible rfl) | (go_simp; done))) | ((with_reducible refine gate_load (t := 56) rfl ?_); refine load_row3 (t := 56) (g := gb196) ?hg BK196.out ?ho ?hb Try.underlying56 rfl ?hs ?_; (case hg => rfl); (case ho => refine ⟨_, rfl, ?_⟩; first | (with_reducible rfl) | (go_simp; done)); (case hb => (with_reducible repeat (first | refine blk_drewN ?_ _ | refine blk_drew ?_ | refine blk_alloc ?_ _)); with_reducible exact BK196.out); (case hs => kernel_rfl)) | ((with_reducible refine gate_load (t := 68) rfl ?_); refine load_row3w_ (t := 68) (g := gb212) ?hg BK212.out ?ho ?hb Try.underlying68 rfl ?hs ?_; (case hg => first | rfl | (go_simp; done) | (simp [Region.wanted, yielded]; done)); (case ho => refine ⟨_, rfl, ?_⟩; first | (with_reducible rfl) | (go_simp; done)); (case hb => (with_reducible repeat (first | refine blk_drewN ?_ _ | refine blk_drew ?_ | refine blk_alloc ?_ _)); with_reducible exact BK212.out); (case hs => kernel_rfl)) | ((with_reducible refine gate_dst (N := 12) rfl ?_); refine box_event ?hg (N := 12) ?hd (cs := #[.int .i64 0, .int .i64 0, .string (⟨#[]⟩ : ByteArray), .string (⟨#[]⟩ : ByteArray), .string (⟨#[]⟩ : ByteArray), .int .i64 0, .int .i64 0, .int .i64 0, .int .i64 0, .bool false, .int .i64 0, .int .i64 0, .int .i64 0, .string (⟨#[]⟩ : ByteArray), .int .i64 0, .int .i64 0, .string (⟨#[]⟩ : ByteArray), .int .i64 0, .int .i64 0, .string (⟨#[]⟩ : ByteArray)]) (t := 68) ?hr ?_; (case hd => rfl); (case hg => rfl); (case hr => first | (go_simp; done) | (go_simp; rfl)); intro gb212 hg w85 hbox hb; have n0_ := Aside0.mk (blk_below (blk_y BK196.out) hb); have n1_ := Aside0.mk (blk_below (blk_y BK202.out) hb); have n2_ := Aside0.mk (below_step (below_y HB.out) hb); have n3_ := Aside0.mk (hbox); have n4_ := Aside0.mk ((by rw [hg]; exact (below_size (below_y HB.out)) : w.heap.size ≤ gb212)); have n5_ := Aside0.mk ((by rw [hg]; exact (below_size (below_y HB.out)) : w.heap.size ≤ gb212)); have n6_ := Aside0.mk ((by rw [hg]; exact Nat.ne_of_lt (blk_lt (blk_y BK196.out)) : gb196 ≠ gb212)); have n7_ := Aside0.mk ((by rw [hg]; exact Nat.ne_of_gt (blk_lt (blk_y BK196.out)) : gb212 ≠ gb196)); have n8_ := Aside0.mk ((by rw [hg]; exact Nat.ne_of_lt (blk_lt (blk_y BK202.out)) : gb202 ≠ gb212)); have n9_ := Aside0.mk ((by rw [hg]; exact Nat.ne_of_gt (blk_lt (blk_y BK202.out)) : gb212 ≠ gb202)); clear BK196; clear BK202; clear HB; have BK196 := n0_; have BK202 := n1_; have HB := n2_; have BK212 := n3_; have GW212 := n4_; have GE212 := n5_; have NB196_212 := n6_; have NB212_196 := n7_; have NB202_212 := n8_; have NB212_202 := n9_; clear n0_ n1_ n2_ n3_ n4_ n5_ n6_ n7_ n8_ n9_; clear hb hbox hg; have hnb86 := NB212_196.out; have hnc86 := NB196_212.out; have hnb87 := NB212_202.out; have hnc87 := NB202_212.out; have hcz88_0 := bc BK212.out 0 (.int .i64 0) rfl; have hcz88_1 := bc BK212.out 1 (.int .i64 0) rfl; have hcz88_2 := bc BK212.out 2 (.string (⟨#[]⟩ : ByteArray)) rfl; have hcz88_3 := bc BK212.out 3 (.string (⟨#[]⟩ : ByteArray)) rfl; have hcz88_4 := bc BK212.out 4 (.string (⟨#[]⟩ : ByteArray)) rfl; have hcz88_5 := bc BK212.out 5 (.int .i64 0) rfl; have hcz88_6 := bc BK212.out 6 (.int .i64 0) rfl; have hcz88_7 := bc BK212.out 7 (.int .i64 0) rfl; have hcz88_8 := bc BK212.out 8 (.int .i64 0) rfl; have hcz88_9 := bc BK212.out 9 (.bool false) rfl; have hcz88_10 := bc BK212.out 10 (.int .i64 0) rfl; have hcz88_11 := bc BK212.out 11 (.int .i64 0) rfl; have hcz88_12 := bc BK212.out 12 (.int .i64 0) rfl; have hcz88_13 := bc BK212.out 13 (.string (⟨#[]⟩ : ByteArray)) rfl; have hcz88_14 := bc BK212.out 14 (.int .i64 0) rfl; have hcz88_15 := bc BK212.out 15 (.int .i64 0) rfl; have hcz88_16 := bc BK212.out 16 (.string (⟨#[]⟩ : ByteArray)) rfl; have hcz88_17 := bc BK212.out 17 (.int .i64 0) rfl; have hcz88_18 := bc BK212.out 18 (.int .i64 0) rfl; have hcz88_19 := bc BK212.out 19 (.string (⟨#[]⟩ : ByteArray)) rfl; have hfz88_0 := blk_frozen BK212.out 0; have hfz88_1 := blk_frozen BK212.out 1; have hfz88_2 := blk_frozen BK212.out 2; have hfz88_3 := blk_frozen BK212.out 3; have hfz88_4 := blk_frozen BK212.out 4; have hfz88_5 := blk_frozen BK212.out 5; have hfz88_6 := blk_frozen BK212.out 6; have hfz88_7 := blk_frozen BK212.out 7; have hfz88_8 := blk_frozen BK212.out 8; have hfz88_9 := blk_frozen BK212.out 9; have hfz88_10 := blk_frozen BK212.out 10; have hfz88_11 := blk_frozen BK212.out 11; have hfz88_12 := blk_frozen BK212.out 12; have hfz88_13 := blk_frozen BK212.out 13; have hfz88_14 := blk_frozen BK212.out 14; have hfz88_15 := blk_frozen BK212.out 15; have hfz88_16 := blk_frozen BK212.out 16; have hfz88_17 := blk_frozen BK212.out 17; have hfz88_18 := blk_frozen BK212.out 18; have hfz88_19 := blk_frozen BK212.out 19) | ((with_reducible refine gate_store (t := 68) (p := 12) rfl ?_); (try (rw [drewN_self w85]; generalize hq_ : World.drewN w85 _ = w85; have n0_ := Aside0.mk (blk_at hq_ BK196.out); have n1_ := Aside0.mk (blk_at hq_ BK202.out); have n2_ := Aside0.mk (blk_at hq_ BK212.out); have n3_ := Aside0.mk (below_at hq_ HB.out); clear hq_ BK196 BK202 BK212 HB; have BK196 := n0_; have BK202 := n1_; have BK212 := n2_; have HB := n3_; clear n0_ n1_ n2_ n3_)); refine store_whole2 (t := 68) (g := gb212) ?hg ?hn (cells := #[.int .i64 ((rd_T68 l0_5 x11_3).f0), .int .i64 ((rd_T68 l0_5 x11_3).f1), .string ((rd_T68 l0_5 x11_3).f2), .string ((rd_T68 l0_5 x11_3).f3), .string ((rd_T68 l0_5 x11_3).f4), .int .i64 ((rd_T68 l0_5 x11_3).f5), .int .i64 ((rd_T68 l0_5 x11_3).f6), .int .i64 ((rd_T68 l0_5 x11_3).f7), .int .i64 ((rd_T68 l0_5 x11_3).f8), .bool ((rd_T68 l0_5 x11_3).f9), .int .i64 ((rd_T68 l0_5 x11_3).f10), .int .i64 ((rd_T68 l0_5 x11_3).f11), .int .i64 ((rd_T68 l0_5 x11_3).f12), .string ((rd_T68 l0_5 x11_3).f13), .int .i64 ((rd_T68 l0_5 x11_3).f14), .int .i64 ((rd_T68 l0_5 x11_3).f15), .string ((rd_T68 l0_5 x11_3).f16), .int .i64 ((rd_T68 l0_5 x11_3).f17), .int .i64 ((rd_T68 l0_5 x11_3).f18), .string ((rd_T68 l0_5 x11_3).f19)]) ?ho (blk_y BK212.out) (by kernel_rfl) rfl ?h1 ?_; (case hg => rfl); (case hn => rfl); (case ho => refine ⟨_, _, rfl, ?_, ?_⟩; all_goals (first | (with_reducible rfl) | (go_simp; done) | rfl | (go_simp; rfl))); (case h1 => first | rfl | simp [Value.oneCell']); intro w89 hw; have hg : w85.grownBy w89 (some gb212) := (by rw [hw]; exact grown_setRow _ _ _); have n0_ := Aside0.mk ((by rw [hw]; exact (setRow_other _ _ _ _ NB196_212.out).trans (blk_y BK196.out) : w89.heap[gb196]? = some (.cells #[.int .i64 a0_0, .int .i64 a0_1, .int .i64 a0_2, .int .i64 a0_3, .slice A0_4 l0_4.length c0_4, .slice (some ad211) l0_5.length c0_5] 56 (0, 0)))); have n1_ := Aside0.mk ((by rw [hw]; exact (setRow_other _ _ _ _ NB202_212.out).trans (blk_y BK202.out) : w89.heap[gb202]? = some (.cells #[.int .i64 t199, .int .i64 t200] 59 (0, 0)))); have n2_ := Aside0.mk ((by rw [hw]; exact setRow_heap _ _ _ _ _ _ (blk_y BK212.out) : w89.heap[gb212]? = some (.cells #[.int .i64 ((rd_T68 l0_5 x11_3).f0), .int .i64 ((rd_T68 l0_5 x11_3).f1), .string ((rd_T68 l0_5 x11_3).f2), .string ((rd_T68 l0_5 x11_3).f3), .string ((rd_T68 l0_5 x11_3).f4), .int .i64 ((rd_T68 l0_5 x11_3).f5), .int .i64 ((rd_T68 l0_5 x11_3).f6), .int .i64 ((rd_T68 l0_5 x11_3).f7), .int .i64 ((rd_T68 l0_5 x11_3).f8), .bool ((rd_T68 l0_5 x11_3).f9), .int .i64 ((rd_T68 l0_5 x11_3).f10), .int .i64 ((rd_T68 l0_5 x11_3).f11), .int .i64 ((rd_T68 l0_5 x11_3).f12), .string ((rd_T68 l0_5 x11_3).f13), .int .i64 ((rd_T68 l0_5 x11_3).f14), .int .i64 ((rd_T68 l0_5 x11_3).f15), .string ((rd_T68 l0_5 x11_3).f16), .int .i64 ((rd_T68 l0_5 x11_3).f17), .int .i64 ((rd_T68 l0_5 x11_3).f18), .string ((rd_T68 l0_5 x11_3).f19)] 68 (0, 0)))); have n3_ := Aside0.mk ((by rw [hw]; exact below_setRow (below_y HB.out) GE212.out _ : Below w.heap.size w w89)); clear BK196; clear BK202; clear BK212; clear HB; have BK196 := n0_; have BK202 := n1_; have BK212 := n2_; have HB := n3_; clear n0_ n1_ n2_ n3_; clear hg hw; have hcz90_0 := bc BK202.out 0 (.int .i64 t199) rfl; have hcz90_1 := bc BK202.out 1 (.int .i64 t200) rfl; have hfz90_0 := blk_frozen BK202.out 0; have hfz90_1 := blk_frozen BK202.out 1; have hcz91_0 := bc BK212.out 0 (.int .i64 ((rd_T68 l0_5 x11_3).f0)) rfl; have hcz91_1 := bc BK212.out 1 (.int .i64 ((rd_T68 l0_5 x11_3).f1)) rfl; have hcz91_2 := bc BK212.out 2 (.string ((rd_T68 l0_5 x11_3).f2)) rfl; have hcz91_3 := bc BK212.out 3 (.string ((rd_T68 l0_5 x11_3).f3)) rfl; have hcz91_4 := bc BK212.out 4 (.string ((rd_T68 l0_5 x11_3).f4)) rfl; have hcz91_5 := bc BK212.out 5 (.int .i64 ((rd_T68 l0_5 x11_3).f5)) rfl; have hcz91_6 := bc BK212.out 6 (.int .i64 ((rd_T68 l0_5 x11_3).f6)) rfl; have hcz91_7 := bc BK212.out 7 (.int .i64 ((rd_T68 l0_5 x11_3).f7)) rfl; have hcz91_8 := bc BK212.out 8 (.int .i64 ((rd_T68 l0_5 x11_3).f8)) rfl; have hcz91_9 := bc BK212.out 9 (.bool ((rd_T68 l0_5 x11_3).f9)) rfl; have hcz91_10 := bc BK212.out 10 (.int .i64 ((rd_T68 l0_5 x11_3).f10)) rfl; have hcz91_11 := bc BK212.out 11 (.int .i64 ((rd_T68 l0_5 x11_3).f11)) rfl; have hcz91_12 := bc BK212.out 12 (.int .i64 ((rd_T68 l0_5 x11_3).f12)) rfl; have hcz91_13 := bc BK212.out 13 (.string ((rd_T68 l0_5 x11_3).f13)) rfl; have hcz91_14 := bc BK212.out 14 (.int .i64 ((rd_T68 l0_5 x11_3).f14)) rfl; have hcz91_15 := bc BK212.out 15 (.int .i64 ((rd_T68 l0_5 x11_3).f15)) rfl; have hcz91_16 := bc BK212.out 16 (.string ((rd_T68 l0_5 x11_3).f16)) rfl; have hcz91_17 := bc BK212.out 17 (.int .i64 ((rd_T68 l0_5 x11_3).f17)) rfl; have hcz91_18 := bc BK212.out 18 (.int .i64 ((rd_T68 l0_5 x11_3).f18)) rfl; have hcz91_19 := bc BK212.out 19 (.string ((rd_T68 l0_5 x11_3).f19)) rfl; have hfz91_0 := blk_frozen BK212.out 0; have hfz91_1 := blk_frozen BK212.out 1; have hfz91_2 := blk_frozen BK212.out 2; have hfz91_3 := blk_frozen BK212.out 3; have hfz91_4 := blk_frozen BK212.out 4; have hfz91_5 := blk_frozen BK212.out 5; have hfz91_6 := blk_frozen BK212.out 6; have hfz91_7 := blk_frozen BK212.out 7; have hfz91_8 := blk_frozen BK212.out 8; have hfz91_9 := blk_frozen BK212.out 9; have hfz91_10 := blk_frozen BK212.out 10; have hfz91_11 := blk_frozen BK212.out 11; have hfz91_12 := blk_frozen BK212.out 12; have hfz91_13 := blk_frozen BK212.out 13; have hfz91_14 := blk_frozen BK212.out 14; have hfz91_15 := blk_frozen BK212.out 15; have hfz91_16 := blk_frozen BK212.out 16; have hfz91_17 := blk_frozen BK212.out 17; have hfz91_18 := blk_frozen BK212.out 18; have hfz91_19 := blk_frozen BK212.out 19) | (go_at_call 43; (with_reducible refine (newsreelref43_Waits.calls ((rd_T68 l0_5 x11_3).f0) ((rd_T68 l0_5 x11_3).f1) ((rd_T68 l0_5 x11_3).f2) ((rd_T68 l0_5 x11_3).f3) ((rd_T68 l0_5 x11_3).f4) ((rd_T68 l0_5 x11_3).f5) ((rd_T68 l0_5 x11_3).f6) ((rd_T68 l0_5 x11_3).f7) ((rd_T68 l0_5 x11_3).f8) ((rd_T68 l0_5 x11_3).f9) ((rd_T68 l0_5 x11_3).f10) ((rd_T68 l0_5 x11_3).f11) ((rd_T68 l0_5 x11_3).f12) ((rd_T68 l0_5 x11_3).f13) ((rd_T68 l0_5 x11_3).f14) ((rd_T68 l0_5 x11_3).f15) ((rd_T68 l0_5 x11_3).f16) ((rd_T68 l0_5 x11_3).f17) ((rd_T68 l0_5 x11_3).f18) ((rd_T68 l0_5 x11_3).f19) false _ A70.out).mono ?_); rintro e w92 ⟨rfl, hb⟩; have n0_ := Aside0.mk (blk_below (blk_y BK196.out) hb); have n1_ := Aside0.mk (blk_below (blk_y BK202.out) hb); have n2_ := Aside0.mk (blk_below (blk_y BK212.out) hb); have n3_ := Aside0.mk (below_step (below_y HB.out) hb); clear BK196; clear BK202; clear BK212; clear HB; have BK196 := n0_; have BK202 := n1_; have BK212 := n2_; have HB := n3_; clear n0_ n1_ n2_ n3_; (try clear hb); (try clear hb2); (try clear hk); (try clear hi)))
      as_aux_lemma =>
        go_wp2_with (first | ((with_reducible refine gate_load (t := 68) rfl ?_); refine load_at2 (t := 68) ?hg ?ho (c0 := _) (cs := [_, _, _, _, _, _, _, _, _, _, _, _, _, _, _, _, _, _, _]) Try.underlying68 rfl (by kernel_rfl) hx211_0 ⟨hx211_1, hx211_2, hx211_3, hx211_4, hx211_5, hx211_6, hx211_7, hx211_8, hx211_9, hx211_10, hx211_11, hx211_12, hx211_13, hx211_14, hx211_15, hx211_16, hx211_17, hx211_18, hx211_19, trivial⟩ ?_; (case hg => rfl); (case ho => refine ⟨_, rfl, ?_⟩; first | (with_reducible rfl) | (go_simp; done))) | ((with_reducible refine gate_load (t := 56) rfl ?_); refine load_row3 (t := 56) (g := gb196) ?hg BK196.out ?ho ?hb Try.underlying56 rfl ?hs ?_; (case hg => rfl); (case ho => refine ⟨_, rfl, ?_⟩; first | (with_reducible rfl) | (go_simp; done)); (case hb => (with_reducible repeat (first | refine blk_drewN ?_ _ | refine blk_drew ?_ | refine blk_alloc ?_ _)); with_reducible exact BK196.out); (case hs => kernel_rfl)) | ((with_reducible refine gate_load (t := 68) rfl ?_); refine load_row3w_ (t := 68) (g := gb212) ?hg BK212.out ?ho ?hb Try.underlying68 rfl ?hs ?_; (case hg => first | rfl | (go_simp; done) | (simp [Region.wanted, yielded]; done)); (case ho => refine ⟨_, rfl, ?_⟩; first | (with_reducible rfl) | (go_simp; done)); (case hb => (with_reducible repeat (first | refine blk_drewN ?_ _ | refine blk_drew ?_ | refine blk_alloc ?_ _)); with_reducible exact BK212.out); (case hs => kernel_rfl)) | ((with_reducible refine gate_dst (N := 12) rfl ?_); refine box_event ?hg (N := 12) ?hd (cs := #[.int .i64 0, .int .i64 0, .string (⟨#[]⟩ : ByteArray), .string (⟨#[]⟩ : ByteArray), .string (⟨#[]⟩ : ByteArray), .int .i64 0, .int .i64 0, .int .i64 0, .int .i64 0, .bool false, .int .i64 0, .int .i64 0, .int .i64 0, .string (⟨#[]⟩ : ByteArray), .int .i64 0, .int .i64 0, .string (⟨#[]⟩ : ByteArray), .int .i64 0, .int .i64 0, .string (⟨#[]⟩ : ByteArray)]) (t := 68) ?hr ?_; (case hd => rfl); (case hg => rfl); (case hr => first | (go_simp; done) | (go_simp; rfl)); intro gb212 hg w85 hbox hb; have n0_ := Aside0.mk (blk_below (blk_y BK196.out) hb); have n1_ := Aside0.mk (blk_below (blk_y BK202.out) hb); have n2_ := Aside0.mk (below_step (below_y HB.out) hb); have n3_ := Aside0.mk (hbox); have n4_ := Aside0.mk ((by rw [hg]; exact (below_size (below_y HB.out)) : w.heap.size ≤ gb212)); have n5_ := Aside0.mk ((by rw [hg]; exact (below_size (below_y HB.out)) : w.heap.size ≤ gb212)); have n6_ := Aside0.mk ((by rw [hg]; exact Nat.ne_of_lt (blk_lt (blk_y BK196.out)) : gb196 ≠ gb212)); have n7_ := Aside0.mk ((by rw [hg]; exact Nat.ne_of_gt (blk_lt (blk_y BK196.out)) : gb212 ≠ gb196)); have n8_ := Aside0.mk ((by rw [hg]; exact Nat.ne_of_lt (blk_lt (blk_y BK202.out)) : gb202 ≠ gb212)); have n9_ := Aside0.mk ((by rw [hg]; exact Nat.ne_of_gt (blk_lt (blk_y BK202.out)) : gb212 ≠ gb202)); clear BK196; clear BK202; clear HB; have BK196 := n0_; have BK202 := n1_; have HB := n2_; have BK212 := n3_; have GW212 := n4_; have GE212 := n5_; have NB196_212 := n6_; have NB212_196 := n7_; have NB202_212 := n8_; have NB212_202 := n9_; clear n0_ n1_ n2_ n3_ n4_ n5_ n6_ n7_ n8_ n9_; clear hb hbox hg; have hnb86 := NB212_196.out; have hnc86 := NB196_212.out; have hnb87 := NB212_202.out; have hnc87 := NB202_212.out; have hcz88_0 := bc BK212.out 0 (.int .i64 0) rfl; have hcz88_1 := bc BK212.out 1 (.int .i64 0) rfl; have hcz88_2 := bc BK212.out 2 (.string (⟨#[]⟩ : ByteArray)) rfl; have hcz88_3 := bc BK212.out 3 (.string (⟨#[]⟩ : ByteArray)) rfl; have hcz88_4 := bc BK212.out 4 (.string (⟨#[]⟩ : ByteArray)) rfl; have hcz88_5 := bc BK212.out 5 (.int .i64 0) rfl; have hcz88_6 := bc BK212.out 6 (.int .i64 0) rfl; have hcz88_7 := bc BK212.out 7 (.int .i64 0) rfl; have hcz88_8 := bc BK212.out 8 (.int .i64 0) rfl; have hcz88_9 := bc BK212.out 9 (.bool false) rfl; have hcz88_10 := bc BK212.out 10 (.int .i64 0) rfl; have hcz88_11 := bc BK212.out 11 (.int .i64 0) rfl; have hcz88_12 := bc BK212.out 12 (.int .i64 0) rfl; have hcz88_13 := bc BK212.out 13 (.string (⟨#[]⟩ : ByteArray)) rfl; have hcz88_14 := bc BK212.out 14 (.int .i64 0) rfl; have hcz88_15 := bc BK212.out 15 (.int .i64 0) rfl; have hcz88_16 := bc BK212.out 16 (.string (⟨#[]⟩ : ByteArray)) rfl; have hcz88_17 := bc BK212.out 17 (.int .i64 0) rfl; have hcz88_18 := bc BK212.out 18 (.int .i64 0) rfl; have hcz88_19 := bc BK212.out 19 (.string (⟨#[]⟩ : ByteArray)) rfl; have hfz88_0 := blk_frozen BK212.out 0; have hfz88_1 := blk_frozen BK212.out 1; have hfz88_2 := blk_frozen BK212.out 2; have hfz88_3 := blk_frozen BK212.out 3; have hfz88_4 := blk_frozen BK212.out 4; have hfz88_5 := blk_frozen BK212.out 5; have hfz88_6 := blk_frozen BK212.out 6; have hfz88_7 := blk_frozen BK212.out 7; have hfz88_8 := blk_frozen BK212.out 8; have hfz88_9 := blk_frozen BK212.out 9; have hfz88_10 := blk_frozen BK212.out 10; have hfz88_11 := blk_frozen BK212.out 11; have hfz88_12 := blk_frozen BK212.out 12; have hfz88_13 := blk_frozen BK212.out 13; have hfz88_14 := blk_frozen BK212.out 14; have hfz88_15 := blk_frozen BK212.out 15; have hfz88_16 := blk_frozen BK212.out 16; have hfz88_17 := blk_frozen BK212.out 17; have hfz88_18 := blk_frozen BK212.out 18; have hfz88_19 := blk_frozen BK212.out 19) | ((with_reducible refine gate_store (t := 68) (p := 12) rfl ?_); (try (rw [drewN_self w85]; generalize hq_ : World.drewN w85 _ = w85; have n0_ := Aside0.mk (blk_at hq_ BK196.out); have n1_ := Aside0.mk (blk_at hq_ BK202.out); have n2_ := Aside0.mk (blk_at hq_ BK212.out); have n3_ := Aside0.mk (below_at hq_ HB.out); clear hq_ BK196 BK202 BK212 HB; have BK196 := n0_; have BK202 := n1_; have BK212 := n2_; have HB := n3_; clear n0_ n1_ n2_ n3_)); refine store_whole2 (t := 68) (g := gb212) ?hg ?hn (cells := #[.int .i64 ((rd_T68 l0_5 x11_3).f0), .int .i64 ((rd_T68 l0_5 x11_3).f1), .string ((rd_T68 l0_5 x11_3).f2), .string ((rd_T68 l0_5 x11_3).f3), .string ((rd_T68 l0_5 x11_3).f4), .int .i64 ((rd_T68 l0_5 x11_3).f5), .int .i64 ((rd_T68 l0_5 x11_3).f6), .int .i64 ((rd_T68 l0_5 x11_3).f7), .int .i64 ((rd_T68 l0_5 x11_3).f8), .bool ((rd_T68 l0_5 x11_3).f9), .int .i64 ((rd_T68 l0_5 x11_3).f10), .int .i64 ((rd_T68 l0_5 x11_3).f11), .int .i64 ((rd_T68 l0_5 x11_3).f12), .string ((rd_T68 l0_5 x11_3).f13), .int .i64 ((rd_T68 l0_5 x11_3).f14), .int .i64 ((rd_T68 l0_5 x11_3).f15), .string ((rd_T68 l0_5 x11_3).f16), .int .i64 ((rd_T68 l0_5 x11_3).f17), .int .i64 ((rd_T68 l0_5 x11_3).f18), .string ((rd_T68 l0_5 x11_3).f19)]) ?ho (blk_y BK212.out) (by kernel_rfl) rfl ?h1 ?_; (case hg => rfl); (case hn => rfl); (case ho => refine ⟨_, _, rfl, ?_, ?_⟩; all_goals (first | (with_reducible rfl) | (go_simp; done) | rfl | (go_simp; rfl))); (case h1 => first | rfl | simp [Value.oneCell']); intro w89 hw; have hg : w85.grownBy w89 (some gb212) := (by rw [hw]; exact grown_setRow _ _ _); have n0_ := Aside0.mk ((by rw [hw]; exact (setRow_other _ _ _ _ NB196_212.out).trans (blk_y BK196.out) : w89.heap[gb196]? = some (.cells #[.int .i64 a0_0, .int .i64 a0_1, .int .i64 a0_2, .int .i64 a0_3, .slice A0_4 l0_4.length c0_4, .slice (some ad211) l0_5.length c0_5] 56 (0, 0)))); have n1_ := Aside0.mk ((by rw [hw]; exact (setRow_other _ _ _ _ NB202_212.out).trans (blk_y BK202.out) : w89.heap[gb202]? = some (.cells #[.int .i64 t199, .int .i64 t200] 59 (0, 0)))); have n2_ := Aside0.mk ((by rw [hw]; exact setRow_heap _ _ _ _ _ _ (blk_y BK212.out) : w89.heap[gb212]? = some (.cells #[.int .i64 ((rd_T68 l0_5 x11_3).f0), .int .i64 ((rd_T68 l0_5 x11_3).f1), .string ((rd_T68 l0_5 x11_3).f2), .string ((rd_T68 l0_5 x11_3).f3), .string ((rd_T68 l0_5 x11_3).f4), .int .i64 ((rd_T68 l0_5 x11_3).f5), .int .i64 ((rd_T68 l0_5 x11_3).f6), .int .i64 ((rd_T68 l0_5 x11_3).f7), .int .i64 ((rd_T68 l0_5 x11_3).f8), .bool ((rd_T68 l0_5 x11_3).f9), .int .i64 ((rd_T68 l0_5 x11_3).f10), .int .i64 ((rd_T68 l0_5 x11_3).f11), .int .i64 ((rd_T68 l0_5 x11_3).f12), .string ((rd_T68 l0_5 x11_3).f13), .int .i64 ((rd_T68 l0_5 x11_3).f14), .int .i64 ((rd_T68 l0_5 x11_3).f15), .string ((rd_T68 l0_5 x11_3).f16), .int .i64 ((rd_T68 l0_5 x11_3).f17), .int .i64 ((rd_T68 l0_5 x11_3).f18), .string ((rd_T68 l0_5 x11_3).f19)] 68 (0, 0)))); have n3_ := Aside0.mk ((by rw [hw]; exact below_setRow (below_y HB.out) GE212.out _ : Below w.heap.size w w89)); clear BK196; clear BK202; clear BK212; clear HB; have BK196 := n0_; have BK202 := n1_; have BK212 := n2_; have HB := n3_; clear n0_ n1_ n2_ n3_; clear hg hw; have hcz90_0 := bc BK202.out 0 (.int .i64 t199) rfl; have hcz90_1 := bc BK202.out 1 (.int .i64 t200) rfl; have hfz90_0 := blk_frozen BK202.out 0; have hfz90_1 := blk_frozen BK202.out 1; have hcz91_0 := bc BK212.out 0 (.int .i64 ((rd_T68 l0_5 x11_3).f0)) rfl; have hcz91_1 := bc BK212.out 1 (.int .i64 ((rd_T68 l0_5 x11_3).f1)) rfl; have hcz91_2 := bc BK212.out 2 (.string ((rd_T68 l0_5 x11_3).f2)) rfl; have hcz91_3 := bc BK212.out 3 (.string ((rd_T68 l0_5 x11_3).f3)) rfl; have hcz91_4 := bc BK212.out 4 (.string ((rd_T68 l0_5 x11_3).f4)) rfl; have hcz91_5 := bc BK212.out 5 (.int .i64 ((rd_T68 l0_5 x11_3).f5)) rfl; have hcz91_6 := bc BK212.out 6 (.int .i64 ((rd_T68 l0_5 x11_3).f6)) rfl; have hcz91_7 := bc BK212.out 7 (.int .i64 ((rd_T68 l0_5 x11_3).f7)) rfl; have hcz91_8 := bc BK212.out 8 (.int .i64 ((rd_T68 l0_5 x11_3).f8)) rfl; have hcz91_9 := bc BK212.out 9 (.bool ((rd_T68 l0_5 x11_3).f9)) rfl; have hcz91_10 := bc BK212.out 10 (.int .i64 ((rd_T68 l0_5 x11_3).f10)) rfl; have hcz91_11 := bc BK212.out 11 (.int .i64 ((rd_T68 l0_5 x11_3).f11)) rfl; have hcz91_12 := bc BK212.out 12 (.int .i64 ((rd_T68 l0_5 x11_3).f12)) rfl; have hcz91_13 := bc BK212.out 13 (.string ((rd_T68 l0_5 x11_3).f13)) rfl; have hcz91_14 := bc BK212.out 14 (.int .i64 ((rd_T68 l0_5 x11_3).f14)) rfl; have hcz91_15 := bc BK212.out 15 (.int .i64 ((rd_T68 l0_5 x11_3).f15)) rfl; have hcz91_16 := bc BK212.out 16 (.string ((rd_T68 l0_5 x11_3).f16)) rfl; have hcz91_17 := bc BK212.out 17 (.int .i64 ((rd_T68 l0_5 x11_3).f17)) rfl; have hcz91_18 := bc BK212.out 18 (.int .i64 ((rd_T68 l0_5 x11_3).f18)) rfl; have hcz91_19 := bc BK212.out 19 (.string ((rd_T68 l0_5 x11_3).f19)) rfl; have hfz91_0 := blk_frozen BK212.out 0; have hfz91_1 := blk_frozen BK212.out 1; have hfz91_2 := blk_frozen BK212.out 2; have hfz91_3 := blk_frozen BK212.out 3; have hfz91_4 := blk_frozen BK212.out 4; have hfz91_5 := blk_frozen BK212.out 5; have hfz91_6 := blk_frozen BK212.out 6; have hfz91_7 := blk_frozen BK212.out 7; have hfz91_8 := blk_frozen BK212.out 8; have hfz91_9 := blk_frozen BK212.out 9; have hfz91_10 := blk_frozen BK212.out 10; have hfz91_11 := blk_frozen BK212.out 11; have hfz91_12 := blk_frozen BK212.out 12; have hfz91_13 := blk_frozen BK212.out 13; have hfz91_14 := blk_frozen BK212.out 14; have hfz91_15 := blk_frozen BK212.out 15; have hfz91_16 := blk_frozen BK212.out 16; have hfz91_17 := blk_frozen BK212.out 17; have hfz91_18 := blk_frozen BK212.out 18; have hfz91_19 := blk_frozen BK212.out 19) | (go_at_call 43; (with_reducible refine (newsreelref43_Waits.calls ((rd_T68 l0_5 x11_3).f0) ((rd_T68 l0_5 x11_3).f1) ((rd_T68 l0_5 x11_3).f2) ((rd_T68 l0_5 x11_3).f3) ((rd_T68 l0_5 x11_3).f4) ((rd_T68 l0_5 x11_3).f5) ((rd_T68 l0_5 x11_3).f6) ((rd_T68 l0_5 x11_3).f7) ((rd_T68 l0_5 x11_3).f8) ((rd_T68 l0_5 x11_3).f9) ((rd_T68 l0_5 x11_3).f10) ((rd_T68 l0_5 x11_3).f11) ((rd_T68 l0_5 x11_3).f12) ((rd_T68 l0_5 x11_3).f13) ((rd_T68 l0_5 x11_3).f14) ((rd_T68 l0_5 x11_3).f15) ((rd_T68 l0_5 x11_3).f16) ((rd_T68 l0_5 x11_3).f17) ((rd_T68 l0_5 x11_3).f18) ((rd_T68 l0_5 x11_3).f19) false _ A70.out).mono ?_); rintro e w92 ⟨rfl, hb⟩; have n0_ := Aside0.mk (blk_below (blk_y BK196.out) hb); have n1_ := Aside0.mk (blk_below (blk_y BK202.out) hb); have n2_ := Aside0.mk (blk_below (blk_y BK212.out) hb); have n3_ := Aside0.mk (below_step (below_y HB.out) hb); clear BK196; clear BK202; clear BK212; clear HB; have BK196 := n0_; have BK202 := n1_; have BK212 := n2_; have HB := n3_; clear n0_ n1_ n2_ n3_; (try clear hb); (try clear hb2); (try clear hk); (try clear hi); refine stopH_ ?_))
        as_aux_lemma =>
          refine gostop_ ?_
          go_wp2
          go_roundg k3
          case measure => have := HJ6.out; have := HK2.out; have := HK3.out; omega
          case rel => exact ⟨(false), (wrap64 (x11_3 + 1)), (by first | rfl | (simp; done) | (simp [*]; done)), (by first | rfl | (simp; done) | (simp [*]; done)), H', ⟨by have := HJ6.out; have := HK2.out; have := HK3.out; omega⟩, ⟨by (with_reducible repeat (first | refine blk_drewN ?_ _ | refine blk_drew ?_ | refine blk_alloc ?_ _)); exact BK196.out⟩, ⟨by (with_reducible repeat (first | refine blk_drewN ?_ _ | refine blk_drew ?_ | refine blk_alloc ?_ _)); exact BK202.out⟩, ⟨by repeat (first | (with_reducible first | exact HB.out | apply below_alloc | apply pw_below_drewN | apply below_drew1 | refine below_set ?_ GE196.out | refine below_set ?_ GE202.out | refine below_set ?_ GE212.out) | exact HB.out)⟩⟩
  subst c71
  have H1 : (newsreellaw43_PickWhen.l1 k3 a1 (decide (((rd_T68 l0_5 x11_3).f12) ≤ a1)) (wrap64 (x11_3 + 1)) a0_0 a0_1 a0_2 a0_3 l0_4 l0_5 t199 t200) = some r := by rw [if_pos rfl] at H; exact H
  clear H
  have H := H1
  clear H1
  as_aux_lemma =>
    have H' := Aside0.mk H
    clear H
    have hnb72 := NB196_202.out
    have hnc72 := NB202_196.out
    have hcz73_0 := bc BK196.out 0 (.int .i64 a0_0) rfl
    have hcz73_1 := bc BK196.out 1 (.int .i64 a0_1) rfl
    have hcz73_2 := bc BK196.out 2 (.int .i64 a0_2) rfl
    have hcz73_3 := bc BK196.out 3 (.int .i64 a0_3) rfl
    have hcz73_4 := bc BK196.out 4 (.slice A0_4 l0_4.length c0_4) rfl
    have hcz73_5 := bc BK196.out 5 (.slice A0_5 l0_5.length c0_5) rfl
    have hfz73_0 := blk_frozen BK196.out 0
    have hfz73_1 := blk_frozen BK196.out 1
    have hfz73_2 := blk_frozen BK196.out 2
    have hfz73_3 := blk_frozen BK196.out 3
    have hfz73_4 := blk_frozen BK196.out 4
    have hfz73_5 := blk_frozen BK196.out 5
    have p211 : 0 ≤ (x11_3 : Int) := of_decide_eq_true (by first | (with_reducible assumption) | assumption)
    have q211 : x11_3 < (l0_5.length : Int) := of_decide_eq_true (by first | (with_reducible assumption) | assumption)
    obtain ⟨ad211, e211, hx211_0, hx211_1, hx211_2, hx211_3, hx211_4, hx211_5, hx211_6, hx211_7, hx211_8, hx211_9, hx211_10, hx211_11, hx211_12, hx211_13, hx211_14, hx211_15, hx211_16, hx211_17, hx211_18, hx211_19⟩ := at_T68 HR0_5.out x11_3 p211 q211
    cases e211
    replace hx211_0 := (HB.out.cell (World.block_lt_of_cell? w _ hx211_0)).trans hx211_0
    replace hx211_1 := (HB.out.cell (World.block_lt_of_cell? w _ hx211_1)).trans hx211_1
    replace hx211_2 := (HB.out.cell (World.block_lt_of_cell? w _ hx211_2)).trans hx211_2
    replace hx211_3 := (HB.out.cell (World.block_lt_of_cell? w _ hx211_3)).trans hx211_3
    replace hx211_4 := (HB.out.cell (World.block_lt_of_cell? w _ hx211_4)).trans hx211_4
    replace hx211_5 := (HB.out.cell (World.block_lt_of_cell? w _ hx211_5)).trans hx211_5
    replace hx211_6 := (HB.out.cell (World.block_lt_of_cell? w _ hx211_6)).trans hx211_6
    replace hx211_7 := (HB.out.cell (World.block_lt_of_cell? w _ hx211_7)).trans hx211_7
    replace hx211_8 := (HB.out.cell (World.block_lt_of_cell? w _ hx211_8)).trans hx211_8
    replace hx211_9 := (HB.out.cell (World.block_lt_of_cell? w _ hx211_9)).trans hx211_9
    replace hx211_10 := (HB.out.cell (World.block_lt_of_cell? w _ hx211_10)).trans hx211_10
    replace hx211_11 := (HB.out.cell (World.block_lt_of_cell? w _ hx211_11)).trans hx211_11
    replace hx211_12 := (HB.out.cell (World.block_lt_of_cell? w _ hx211_12)).trans hx211_12
    replace hx211_13 := (HB.out.cell (World.block_lt_of_cell? w _ hx211_13)).trans hx211_13
    replace hx211_14 := (HB.out.cell (World.block_lt_of_cell? w _ hx211_14)).trans hx211_14
    replace hx211_15 := (HB.out.cell (World.block_lt_of_cell? w _ hx211_15)).trans hx211_15
    replace hx211_16 := (HB.out.cell (World.block_lt_of_cell? w _ hx211_16)).trans hx211_16
    replace hx211_17 := (HB.out.cell (World.block_lt_of_cell? w _ hx211_17)).trans hx211_17
    replace hx211_18 := (HB.out.cell (World.block_lt_of_cell? w _ hx211_18)).trans hx211_18
    replace hx211_19 := (HB.out.cell (World.block_lt_of_cell? w _ hx211_19)).trans hx211_19
    replace p211 := eq_true p211
    replace q211 := eq_true q211
    go_upto_region 20 with (first | ((with_reducible refine gate_load (t := 68) rfl ?_); refine load_at2 (t := 68) ?hg ?ho (c0 := _) (cs := [_, _, _, _, _, _, _, _, _, _, _, _, _, _, _, _, _, _, _]) Try.underlying68 rfl (by kernel_rfl) hx211_0 ⟨hx211_1, hx211_2, hx211_3, hx211_4, hx211_5, hx211_6, hx211_7, hx211_8, hx211_9, hx211_10, hx211_11, hx211_12, hx211_13, hx211_14, hx211_15, hx211_16, hx211_17, hx211_18, hx211_19, trivial⟩ ?_; (case hg => rfl); (case ho => refine ⟨_, rfl, ?_⟩; first | (with_reducible rfl) | (go_simp; done))) | ((with_reducible refine gate_load (t := 56) rfl ?_); refine load_row3 (t := 56) (g := gb196) ?hg BK196.out ?ho ?hb Try.underlying56 rfl ?hs ?_; (case hg => rfl); (case ho => refine ⟨_, rfl, ?_⟩; first | (with_reducible rfl) | (go_simp; done)); (case hb => (with_reducible repeat (first | refine blk_drewN ?_ _ | refine blk_drew ?_ | refine blk_alloc ?_ _)); with_reducible exact BK196.out); (case hs => kernel_rfl)) | ((with_reducible refine gate_load (t := 68) rfl ?_); refine load_row3w_ (t := 68) (g := gb212) ?hg BK212.out ?ho ?hb Try.underlying68 rfl ?hs ?_; (case hg => first | rfl | (go_simp; done) | (simp [Region.wanted, yielded]; done)); (case ho => refine ⟨_, rfl, ?_⟩; first | (with_reducible rfl) | (go_simp; done)); (case hb => (with_reducible repeat (first | refine blk_drewN ?_ _ | refine blk_drew ?_ | refine blk_alloc ?_ _)); with_reducible exact BK212.out); (case hs => kernel_rfl)) | ((with_reducible refine gate_dst (N := 12) rfl ?_); refine box_event ?hg (N := 12) ?hd (cs := #[.int .i64 0, .int .i64 0, .string (⟨#[]⟩ : ByteArray), .string (⟨#[]⟩ : ByteArray), .string (⟨#[]⟩ : ByteArray), .int .i64 0, .int .i64 0, .int .i64 0, .int .i64 0, .bool false, .int .i64 0, .int .i64 0, .int .i64 0, .string (⟨#[]⟩ : ByteArray), .int .i64 0, .int .i64 0, .string (⟨#[]⟩ : ByteArray), .int .i64 0, .int .i64 0, .string (⟨#[]⟩ : ByteArray)]) (t := 68) ?hr ?_; (case hd => rfl); (case hg => rfl); (case hr => first | (go_simp; done) | (go_simp; rfl)); intro gb212 hg w74 hbox hb; have n0_ := Aside0.mk (blk_below (blk_y BK196.out) hb); have n1_ := Aside0.mk (blk_below (blk_y BK202.out) hb); have n2_ := Aside0.mk (below_step (below_y HB.out) hb); have n3_ := Aside0.mk (hbox); have n4_ := Aside0.mk ((by rw [hg]; exact (below_size (below_y HB.out)) : w.heap.size ≤ gb212)); have n5_ := Aside0.mk ((by rw [hg]; exact (below_size (below_y HB.out)) : w.heap.size ≤ gb212)); have n6_ := Aside0.mk ((by rw [hg]; exact Nat.ne_of_lt (blk_lt (blk_y BK196.out)) : gb196 ≠ gb212)); have n7_ := Aside0.mk ((by rw [hg]; exact Nat.ne_of_gt (blk_lt (blk_y BK196.out)) : gb212 ≠ gb196)); have n8_ := Aside0.mk ((by rw [hg]; exact Nat.ne_of_lt (blk_lt (blk_y BK202.out)) : gb202 ≠ gb212)); have n9_ := Aside0.mk ((by rw [hg]; exact Nat.ne_of_gt (blk_lt (blk_y BK202.out)) : gb212 ≠ gb202)); clear BK196; clear BK202; clear HB; have BK196 := n0_; have BK202 := n1_; have HB := n2_; have BK212 := n3_; have GW212 := n4_; have GE212 := n5_; have NB196_212 := n6_; have NB212_196 := n7_; have NB202_212 := n8_; have NB212_202 := n9_; clear n0_ n1_ n2_ n3_ n4_ n5_ n6_ n7_ n8_ n9_; clear hb hbox hg; have hnb75 := NB212_196.out; have hnc75 := NB196_212.out; have hnb76 := NB212_202.out; have hnc76 := NB202_212.out; have hcz77_0 := bc BK212.out 0 (.int .i64 0) rfl; have hcz77_1 := bc BK212.out 1 (.int .i64 0) rfl; have hcz77_2 := bc BK212.out 2 (.string (⟨#[]⟩ : ByteArray)) rfl; have hcz77_3 := bc BK212.out 3 (.string (⟨#[]⟩ : ByteArray)) rfl; have hcz77_4 := bc BK212.out 4 (.string (⟨#[]⟩ : ByteArray)) rfl; have hcz77_5 := bc BK212.out 5 (.int .i64 0) rfl; have hcz77_6 := bc BK212.out 6 (.int .i64 0) rfl; have hcz77_7 := bc BK212.out 7 (.int .i64 0) rfl; have hcz77_8 := bc BK212.out 8 (.int .i64 0) rfl; have hcz77_9 := bc BK212.out 9 (.bool false) rfl; have hcz77_10 := bc BK212.out 10 (.int .i64 0) rfl; have hcz77_11 := bc BK212.out 11 (.int .i64 0) rfl; have hcz77_12 := bc BK212.out 12 (.int .i64 0) rfl; have hcz77_13 := bc BK212.out 13 (.string (⟨#[]⟩ : ByteArray)) rfl; have hcz77_14 := bc BK212.out 14 (.int .i64 0) rfl; have hcz77_15 := bc BK212.out 15 (.int .i64 0) rfl; have hcz77_16 := bc BK212.out 16 (.string (⟨#[]⟩ : ByteArray)) rfl; have hcz77_17 := bc BK212.out 17 (.int .i64 0) rfl; have hcz77_18 := bc BK212.out 18 (.int .i64 0) rfl; have hcz77_19 := bc BK212.out 19 (.string (⟨#[]⟩ : ByteArray)) rfl; have hfz77_0 := blk_frozen BK212.out 0; have hfz77_1 := blk_frozen BK212.out 1; have hfz77_2 := blk_frozen BK212.out 2; have hfz77_3 := blk_frozen BK212.out 3; have hfz77_4 := blk_frozen BK212.out 4; have hfz77_5 := blk_frozen BK212.out 5; have hfz77_6 := blk_frozen BK212.out 6; have hfz77_7 := blk_frozen BK212.out 7; have hfz77_8 := blk_frozen BK212.out 8; have hfz77_9 := blk_frozen BK212.out 9; have hfz77_10 := blk_frozen BK212.out 10; have hfz77_11 := blk_frozen BK212.out 11; have hfz77_12 := blk_frozen BK212.out 12; have hfz77_13 := blk_frozen BK212.out 13; have hfz77_14 := blk_frozen BK212.out 14; have hfz77_15 := blk_frozen BK212.out 15; have hfz77_16 := blk_frozen BK212.out 16; have hfz77_17 := blk_frozen BK212.out 17; have hfz77_18 := blk_frozen BK212.out 18; have hfz77_19 := blk_frozen BK212.out 19) | ((with_reducible refine gate_store (t := 68) (p := 12) rfl ?_); (try (rw [drewN_self w74]; generalize hq_ : World.drewN w74 _ = w74; have n0_ := Aside0.mk (blk_at hq_ BK196.out); have n1_ := Aside0.mk (blk_at hq_ BK202.out); have n2_ := Aside0.mk (blk_at hq_ BK212.out); have n3_ := Aside0.mk (below_at hq_ HB.out); clear hq_ BK196 BK202 BK212 HB; have BK196 := n0_; have BK202 := n1_; have BK212 := n2_; have HB := n3_; clear n0_ n1_ n2_ n3_)); refine store_whole2 (t := 68) (g := gb212) ?hg ?hn (cells := #[.int .i64 ((rd_T68 l0_5 x11_3).f0), .int .i64 ((rd_T68 l0_5 x11_3).f1), .string ((rd_T68 l0_5 x11_3).f2), .string ((rd_T68 l0_5 x11_3).f3), .string ((rd_T68 l0_5 x11_3).f4), .int .i64 ((rd_T68 l0_5 x11_3).f5), .int .i64 ((rd_T68 l0_5 x11_3).f6), .int .i64 ((rd_T68 l0_5 x11_3).f7), .int .i64 ((rd_T68 l0_5 x11_3).f8), .bool ((rd_T68 l0_5 x11_3).f9), .int .i64 ((rd_T68 l0_5 x11_3).f10), .int .i64 ((rd_T68 l0_5 x11_3).f11), .int .i64 ((rd_T68 l0_5 x11_3).f12), .string ((rd_T68 l0_5 x11_3).f13), .int .i64 ((rd_T68 l0_5 x11_3).f14), .int .i64 ((rd_T68 l0_5 x11_3).f15), .string ((rd_T68 l0_5 x11_3).f16), .int .i64 ((rd_T68 l0_5 x11_3).f17), .int .i64 ((rd_T68 l0_5 x11_3).f18), .string ((rd_T68 l0_5 x11_3).f19)]) ?ho (blk_y BK212.out) (by kernel_rfl) rfl ?h1 ?_; (case hg => rfl); (case hn => rfl); (case ho => refine ⟨_, _, rfl, ?_, ?_⟩; all_goals (first | (with_reducible rfl) | (go_simp; done) | rfl | (go_simp; rfl))); (case h1 => first | rfl | simp [Value.oneCell']); intro w78 hw; have hg : w74.grownBy w78 (some gb212) := (by rw [hw]; exact grown_setRow _ _ _); have n0_ := Aside0.mk ((by rw [hw]; exact (setRow_other _ _ _ _ NB196_212.out).trans (blk_y BK196.out) : w78.heap[gb196]? = some (.cells #[.int .i64 a0_0, .int .i64 a0_1, .int .i64 a0_2, .int .i64 a0_3, .slice A0_4 l0_4.length c0_4, .slice (some ad211) l0_5.length c0_5] 56 (0, 0)))); have n1_ := Aside0.mk ((by rw [hw]; exact (setRow_other _ _ _ _ NB202_212.out).trans (blk_y BK202.out) : w78.heap[gb202]? = some (.cells #[.int .i64 t199, .int .i64 t200] 59 (0, 0)))); have n2_ := Aside0.mk ((by rw [hw]; exact setRow_heap _ _ _ _ _ _ (blk_y BK212.out) : w78.heap[gb212]? = some (.cells #[.int .i64 ((rd_T68 l0_5 x11_3).f0), .int .i64 ((rd_T68 l0_5 x11_3).f1), .string ((rd_T68 l0_5 x11_3).f2), .string ((rd_T68 l0_5 x11_3).f3), .string ((rd_T68 l0_5 x11_3).f4), .int .i64 ((rd_T68 l0_5 x11_3).f5), .int .i64 ((rd_T68 l0_5 x11_3).f6), .int .i64 ((rd_T68 l0_5 x11_3).f7), .int .i64 ((rd_T68 l0_5 x11_3).f8), .bool ((rd_T68 l0_5 x11_3).f9), .int .i64 ((rd_T68 l0_5 x11_3).f10), .int .i64 ((rd_T68 l0_5 x11_3).f11), .int .i64 ((rd_T68 l0_5 x11_3).f12), .string ((rd_T68 l0_5 x11_3).f13), .int .i64 ((rd_T68 l0_5 x11_3).f14), .int .i64 ((rd_T68 l0_5 x11_3).f15), .string ((rd_T68 l0_5 x11_3).f16), .int .i64 ((rd_T68 l0_5 x11_3).f17), .int .i64 ((rd_T68 l0_5 x11_3).f18), .string ((rd_T68 l0_5 x11_3).f19)] 68 (0, 0)))); have n3_ := Aside0.mk ((by rw [hw]; exact below_setRow (below_y HB.out) GE212.out _ : Below w.heap.size w w78)); clear BK196; clear BK202; clear BK212; clear HB; have BK196 := n0_; have BK202 := n1_; have BK212 := n2_; have HB := n3_; clear n0_ n1_ n2_ n3_; clear hg hw; have hcz79_0 := bc BK202.out 0 (.int .i64 t199) rfl; have hcz79_1 := bc BK202.out 1 (.int .i64 t200) rfl; have hfz79_0 := blk_frozen BK202.out 0; have hfz79_1 := blk_frozen BK202.out 1; have hcz80_0 := bc BK212.out 0 (.int .i64 ((rd_T68 l0_5 x11_3).f0)) rfl; have hcz80_1 := bc BK212.out 1 (.int .i64 ((rd_T68 l0_5 x11_3).f1)) rfl; have hcz80_2 := bc BK212.out 2 (.string ((rd_T68 l0_5 x11_3).f2)) rfl; have hcz80_3 := bc BK212.out 3 (.string ((rd_T68 l0_5 x11_3).f3)) rfl; have hcz80_4 := bc BK212.out 4 (.string ((rd_T68 l0_5 x11_3).f4)) rfl; have hcz80_5 := bc BK212.out 5 (.int .i64 ((rd_T68 l0_5 x11_3).f5)) rfl; have hcz80_6 := bc BK212.out 6 (.int .i64 ((rd_T68 l0_5 x11_3).f6)) rfl; have hcz80_7 := bc BK212.out 7 (.int .i64 ((rd_T68 l0_5 x11_3).f7)) rfl; have hcz80_8 := bc BK212.out 8 (.int .i64 ((rd_T68 l0_5 x11_3).f8)) rfl; have hcz80_9 := bc BK212.out 9 (.bool ((rd_T68 l0_5 x11_3).f9)) rfl; have hcz80_10 := bc BK212.out 10 (.int .i64 ((rd_T68 l0_5 x11_3).f10)) rfl; have hcz80_11 := bc BK212.out 11 (.int .i64 ((rd_T68 l0_5 x11_3).f11)) rfl; have hcz80_12 := bc BK212.out 12 (.int .i64 ((rd_T68 l0_5 x11_3).f12)) rfl; have hcz80_13 := bc BK212.out 13 (.string ((rd_T68 l0_5 x11_3).f13)) rfl; have hcz80_14 := bc BK212.out 14 (.int .i64 ((rd_T68 l0_5 x11_3).f14)) rfl; have hcz80_15 := bc BK212.out 15 (.int .i64 ((rd_T68 l0_5 x11_3).f15)) rfl; have hcz80_16 := bc BK212.out 16 (.string ((rd_T68 l0_5 x11_3).f16)) rfl; have hcz80_17 := bc BK212.out 17 (.int .i64 ((rd_T68 l0_5 x11_3).f17)) rfl; have hcz80_18 := bc BK212.out 18 (.int .i64 ((rd_T68 l0_5 x11_3).f18)) rfl; have hcz80_19 := bc BK212.out 19 (.string ((rd_T68 l0_5 x11_3).f19)) rfl; have hfz80_0 := blk_frozen BK212.out 0; have hfz80_1 := blk_frozen BK212.out 1; have hfz80_2 := blk_frozen BK212.out 2; have hfz80_3 := blk_frozen BK212.out 3; have hfz80_4 := blk_frozen BK212.out 4; have hfz80_5 := blk_frozen BK212.out 5; have hfz80_6 := blk_frozen BK212.out 6; have hfz80_7 := blk_frozen BK212.out 7; have hfz80_8 := blk_frozen BK212.out 8; have hfz80_9 := blk_frozen BK212.out 9; have hfz80_10 := blk_frozen BK212.out 10; have hfz80_11 := blk_frozen BK212.out 11; have hfz80_12 := blk_frozen BK212.out 12; have hfz80_13 := blk_frozen BK212.out 13; have hfz80_14 := blk_frozen BK212.out 14; have hfz80_15 := blk_frozen BK212.out 15; have hfz80_16 := blk_frozen BK212.out 16; have hfz80_17 := blk_frozen BK212.out 17; have hfz80_18 := blk_frozen BK212.out 18; have hfz80_19 := blk_frozen BK212.out 19) | (go_at_call 43; (with_reducible refine (newsreelref43_Waits.calls ((rd_T68 l0_5 x11_3).f0) ((rd_T68 l0_5 x11_3).f1) ((rd_T68 l0_5 x11_3).f2) ((rd_T68 l0_5 x11_3).f3) ((rd_T68 l0_5 x11_3).f4) ((rd_T68 l0_5 x11_3).f5) ((rd_T68 l0_5 x11_3).f6) ((rd_T68 l0_5 x11_3).f7) ((rd_T68 l0_5 x11_3).f8) ((rd_T68 l0_5 x11_3).f9) ((rd_T68 l0_5 x11_3).f10) ((rd_T68 l0_5 x11_3).f11) ((rd_T68 l0_5 x11_3).f12) ((rd_T68 l0_5 x11_3).f13) ((rd_T68 l0_5 x11_3).f14) ((rd_T68 l0_5 x11_3).f15) ((rd_T68 l0_5 x11_3).f16) ((rd_T68 l0_5 x11_3).f17) ((rd_T68 l0_5 x11_3).f18) ((rd_T68 l0_5 x11_3).f19) true _ A70.out).mono ?_); rintro e w81 ⟨rfl, hb⟩; have n0_ := Aside0.mk (blk_below (blk_y BK196.out) hb); have n1_ := Aside0.mk (blk_below (blk_y BK202.out) hb); have n2_ := Aside0.mk (blk_below (blk_y BK212.out) hb); have n3_ := Aside0.mk (below_step (below_y HB.out) hb); clear BK196; clear BK202; clear BK212; clear HB; have BK196 := n0_; have BK202 := n1_; have BK212 := n2_; have HB := n3_; clear n0_ n1_ n2_ n3_; (try clear hb); (try clear hb2); (try clear hk); (try clear hi); have hcz82_0 := bc BK212.out 0 (.int .i64 ((rd_T68 l0_5 x11_3).f0)) rfl; have hcz82_1 := bc BK212.out 1 (.int .i64 ((rd_T68 l0_5 x11_3).f1)) rfl; have hcz82_2 := bc BK212.out 2 (.string ((rd_T68 l0_5 x11_3).f2)) rfl; have hcz82_3 := bc BK212.out 3 (.string ((rd_T68 l0_5 x11_3).f3)) rfl; have hcz82_4 := bc BK212.out 4 (.string ((rd_T68 l0_5 x11_3).f4)) rfl; have hcz82_5 := bc BK212.out 5 (.int .i64 ((rd_T68 l0_5 x11_3).f5)) rfl; have hcz82_6 := bc BK212.out 6 (.int .i64 ((rd_T68 l0_5 x11_3).f6)) rfl; have hcz82_7 := bc BK212.out 7 (.int .i64 ((rd_T68 l0_5 x11_3).f7)) rfl; have hcz82_8 := bc BK212.out 8 (.int .i64 ((rd_T68 l0_5 x11_3).f8)) rfl; have hcz82_9 := bc BK212.out 9 (.bool ((rd_T68 l0_5 x11_3).f9)) rfl; have hcz82_10 := bc BK212.out 10 (.int .i64 ((rd_T68 l0_5 x11_3).f10)) rfl; have hcz82_11 := bc BK212.out 11 (.int .i64 ((rd_T68 l0_5 x11_3).f11)) rfl; have hcz82_12 := bc BK212.out 12 (.int .i64 ((rd_T68 l0_5 x11_3).f12)) rfl; have hcz82_13 := bc BK212.out 13 (.string ((rd_T68 l0_5 x11_3).f13)) rfl; have hcz82_14 := bc BK212.out 14 (.int .i64 ((rd_T68 l0_5 x11_3).f14)) rfl; have hcz82_15 := bc BK212.out 15 (.int .i64 ((rd_T68 l0_5 x11_3).f15)) rfl; have hcz82_16 := bc BK212.out 16 (.string ((rd_T68 l0_5 x11_3).f16)) rfl; have hcz82_17 := bc BK212.out 17 (.int .i64 ((rd_T68 l0_5 x11_3).f17)) rfl; have hcz82_18 := bc BK212.out 18 (.int .i64 ((rd_T68 l0_5 x11_3).f18)) rfl; have hcz82_19 := bc BK212.out 19 (.string ((rd_T68 l0_5 x11_3).f19)) rfl; have hfz82_0 := blk_frozen BK212.out 0; have hfz82_1 := blk_frozen BK212.out 1; have hfz82_2 := blk_frozen BK212.out 2; have hfz82_3 := blk_frozen BK212.out 3; have hfz82_4 := blk_frozen BK212.out 4; have hfz82_5 := blk_frozen BK212.out 5; have hfz82_6 := blk_frozen BK212.out 6; have hfz82_7 := blk_frozen BK212.out 7; have hfz82_8 := blk_frozen BK212.out 8; have hfz82_9 := blk_frozen BK212.out 9; have hfz82_10 := blk_frozen BK212.out 10; have hfz82_11 := blk_frozen BK212.out 11; have hfz82_12 := blk_frozen BK212.out 12; have hfz82_13 := blk_frozen BK212.out 13; have hfz82_14 := blk_frozen BK212.out 14; have hfz82_15 := blk_frozen BK212.out 15; have hfz82_16 := blk_frozen BK212.out 16; have hfz82_17 := blk_frozen BK212.out 17; have hfz82_18 := blk_frozen BK212.out 18; have hfz82_19 := blk_frozen BK212.out 19))
    as_aux_lemma =>
      go_wp2_with (first | ((with_reducible refine gate_load (t := 68) rfl ?_); refine load_at2 (t := 68) ?hg ?ho (c0 := _) (cs := [_, _, _, _, _, _, _, _, _, _, _, _, _, _, _, _, _, _, _]) Try.underlying68 rfl (by kernel_rfl) hx211_0 ⟨hx211_1, hx211_2, hx211_3, hx211_4, hx211_5, hx211_6, hx211_7, hx211_8, hx211_9, hx211_10, hx211_11, hx211_12, hx211_13, hx211_14, hx211_15, hx211_16, hx211_17, hx211_18, hx211_19, trivial⟩ ?_; (case hg => rfl); (case ho => refine ⟨_, rfl, ?_⟩; first | (with_reducible rfl) | (go_simp; done))) | ((with_reducible refine gate_load (t := 56) rfl ?_); refine load_row3 (t := 56) (g := gb196) ?hg BK196.out ?ho ?hb Try.underlying56 rfl ?hs ?_; (case hg => rfl); (case ho => refine ⟨_, rfl, ?_⟩; first | (with_reducible rfl) | (go_simp; done)); (case hb => (with_reducible repeat (first | refine blk_drewN ?_ _ | refine blk_drew ?_ | refine blk_alloc ?_ _)); with_reducible exact BK196.out); (case hs => kernel_rfl)) | ((with_reducible refine gate_load (t := 68) rfl ?_); refine load_row3w_ (t := 68) (g := gb212) ?hg BK212.out ?ho ?hb Try.underlying68 rfl ?hs ?_; (case hg => first | rfl | (go_simp; done) | (simp [Region.wanted, yielded]; done)); (case ho => refine ⟨_, rfl, ?_⟩; first | (with_reducible rfl) | (go_simp; done)); (case hb => (with_reducible repeat (first | refine blk_drewN ?_ _ | refine blk_drew ?_ | refine blk_alloc ?_ _)); with_reducible exact BK212.out); (case hs => kernel_rfl)) | ((with_reducible refine gate_dst (N := 12) rfl ?_); refine box_event ?hg (N := 12) ?hd (cs := #[.int .i64 0, .int .i64 0, .string (⟨#[]⟩ : ByteArray), .string (⟨#[]⟩ : ByteArray), .string (⟨#[]⟩ : ByteArray), .int .i64 0, .int .i64 0, .int .i64 0, .int .i64 0, .bool false, .int .i64 0, .int .i64 0, .int .i64 0, .string (⟨#[]⟩ : ByteArray), .int .i64 0, .int .i64 0, .string (⟨#[]⟩ : ByteArray), .int .i64 0, .int .i64 0, .string (⟨#[]⟩ : ByteArray)]) (t := 68) ?hr ?_; (case hd => rfl); (case hg => rfl); (case hr => first | (go_simp; done) | (go_simp; rfl)); intro gb212 hg w74 hbox hb; have n0_ := Aside0.mk (blk_below (blk_y BK196.out) hb); have n1_ := Aside0.mk (blk_below (blk_y BK202.out) hb); have n2_ := Aside0.mk (below_step (below_y HB.out) hb); have n3_ := Aside0.mk (hbox); have n4_ := Aside0.mk ((by rw [hg]; exact (below_size (below_y HB.out)) : w.heap.size ≤ gb212)); have n5_ := Aside0.mk ((by rw [hg]; exact (below_size (below_y HB.out)) : w.heap.size ≤ gb212)); have n6_ := Aside0.mk ((by rw [hg]; exact Nat.ne_of_lt (blk_lt (blk_y BK196.out)) : gb196 ≠ gb212)); have n7_ := Aside0.mk ((by rw [hg]; exact Nat.ne_of_gt (blk_lt (blk_y BK196.out)) : gb212 ≠ gb196)); have n8_ := Aside0.mk ((by rw [hg]; exact Nat.ne_of_lt (blk_lt (blk_y BK202.out)) : gb202 ≠ gb212)); have n9_ := Aside0.mk ((by rw [hg]; exact Nat.ne_of_gt (blk_lt (blk_y BK202.out)) : gb212 ≠ gb202)); clear BK196; clear BK202; clear HB; have BK196 := n0_; have BK202 := n1_; have HB := n2_; have BK212 := n3_; have GW212 := n4_; have GE212 := n5_; have NB196_212 := n6_; have NB212_196 := n7_; have NB202_212 := n8_; have NB212_202 := n9_; clear n0_ n1_ n2_ n3_ n4_ n5_ n6_ n7_ n8_ n9_; clear hb hbox hg; have hnb75 := NB212_196.out; have hnc75 := NB196_212.out; have hnb76 := NB212_202.out; have hnc76 := NB202_212.out; have hcz77_0 := bc BK212.out 0 (.int .i64 0) rfl; have hcz77_1 := bc BK212.out 1 (.int .i64 0) rfl; have hcz77_2 := bc BK212.out 2 (.string (⟨#[]⟩ : ByteArray)) rfl; have hcz77_3 := bc BK212.out 3 (.string (⟨#[]⟩ : ByteArray)) rfl; have hcz77_4 := bc BK212.out 4 (.string (⟨#[]⟩ : ByteArray)) rfl; have hcz77_5 := bc BK212.out 5 (.int .i64 0) rfl; have hcz77_6 := bc BK212.out 6 (.int .i64 0) rfl; have hcz77_7 := bc BK212.out 7 (.int .i64 0) rfl; have hcz77_8 := bc BK212.out 8 (.int .i64 0) rfl; have hcz77_9 := bc BK212.out 9 (.bool false) rfl; have hcz77_10 := bc BK212.out 10 (.int .i64 0) rfl; have hcz77_11 := bc BK212.out 11 (.int .i64 0) rfl; have hcz77_12 := bc BK212.out 12 (.int .i64 0) rfl; have hcz77_13 := bc BK212.out 13 (.string (⟨#[]⟩ : ByteArray)) rfl; have hcz77_14 := bc BK212.out 14 (.int .i64 0) rfl; have hcz77_15 := bc BK212.out 15 (.int .i64 0) rfl; have hcz77_16 := bc BK212.out 16 (.string (⟨#[]⟩ : ByteArray)) rfl; have hcz77_17 := bc BK212.out 17 (.int .i64 0) rfl; have hcz77_18 := bc BK212.out 18 (.int .i64 0) rfl; have hcz77_19 := bc BK212.out 19 (.string (⟨#[]⟩ : ByteArray)) rfl; have hfz77_0 := blk_frozen BK212.out 0; have hfz77_1 := blk_frozen BK212.out 1; have hfz77_2 := blk_frozen BK212.out 2; have hfz77_3 := blk_frozen BK212.out 3; have hfz77_4 := blk_frozen BK212.out 4; have hfz77_5 := blk_frozen BK212.out 5; have hfz77_6 := blk_frozen BK212.out 6; have hfz77_7 := blk_frozen BK212.out 7; have hfz77_8 := blk_frozen BK212.out 8; have hfz77_9 := blk_frozen BK212.out 9; have hfz77_10 := blk_frozen BK212.out 10; have hfz77_11 := blk_frozen BK212.out 11; have hfz77_12 := blk_frozen BK212.out 12; have hfz77_13 := blk_frozen BK212.out 13; have hfz77_14 := blk_frozen BK212.out 14; have hfz77_15 := blk_frozen BK212.out 15; have hfz77_16 := blk_frozen BK212.out 16; have hfz77_17 := blk_frozen BK212.out 17; have hfz77_18 := blk_frozen BK212.out 18; have hfz77_19 := blk_frozen BK212.out 19) | ((with_reducible refine gate_store (t := 68) (p := 12) rfl ?_); (try (rw [drewN_self w74]; generalize hq_ : World.drewN w74 _ = w74; have n0_ := Aside0.mk (blk_at hq_ BK196.out); have n1_ := Aside0.mk (blk_at hq_ BK202.out); have n2_ := Aside0.mk (blk_at hq_ BK212.out); have n3_ := Aside0.mk (below_at hq_ HB.out); clear hq_ BK196 BK202 BK212 HB; have BK196 := n0_; have BK202 := n1_; have BK212 := n2_; have HB := n3_; clear n0_ n1_ n2_ n3_)); refine store_whole2 (t := 68) (g := gb212) ?hg ?hn (cells := #[.int .i64 ((rd_T68 l0_5 x11_3).f0), .int .i64 ((rd_T68 l0_5 x11_3).f1), .string ((rd_T68 l0_5 x11_3).f2), .string ((rd_T68 l0_5 x11_3).f3), .string ((rd_T68 l0_5 x11_3).f4), .int .i64 ((rd_T68 l0_5 x11_3).f5), .int .i64 ((rd_T68 l0_5 x11_3).f6), .int .i64 ((rd_T68 l0_5 x11_3).f7), .int .i64 ((rd_T68 l0_5 x11_3).f8), .bool ((rd_T68 l0_5 x11_3).f9), .int .i64 ((rd_T68 l0_5 x11_3).f10), .int .i64 ((rd_T68 l0_5 x11_3).f11), .int .i64 ((rd_T68 l0_5 x11_3).f12), .string ((rd_T68 l0_5 x11_3).f13), .int .i64 ((rd_T68 l0_5 x11_3).f14), .int .i64 ((rd_T68 l0_5 x11_3).f15), .string ((rd_T68 l0_5 x11_3).f16), .int .i64 ((rd_T68 l0_5 x11_3).f17), .int .i64 ((rd_T68 l0_5 x11_3).f18), .string ((rd_T68 l0_5 x11_3).f19)]) ?ho (blk_y BK212.out) (by kernel_rfl) rfl ?h1 ?_; (case hg => rfl); (case hn => rfl); (case ho => refine ⟨_, _, rfl, ?_, ?_⟩; all_goals (first | (with_reducible rfl) | (go_simp; done) | rfl | (go_simp; rfl))); (case h1 => first | rfl | simp [Value.oneCell']); intro w78 hw; have hg : w74.grownBy w78 (some gb212) := (by rw [hw]; exact grown_setRow _ _ _); have n0_ := Aside0.mk ((by rw [hw]; exact (setRow_other _ _ _ _ NB196_212.out).trans (blk_y BK196.out) : w78.heap[gb196]? = some (.cells #[.int .i64 a0_0, .int .i64 a0_1, .int .i64 a0_2, .int .i64 a0_3, .slice A0_4 l0_4.length c0_4, .slice (some ad211) l0_5.length c0_5] 56 (0, 0)))); have n1_ := Aside0.mk ((by rw [hw]; exact (setRow_other _ _ _ _ NB202_212.out).trans (blk_y BK202.out) : w78.heap[gb202]? = some (.cells #[.int .i64 t199, .int .i64 t200] 59 (0, 0)))); have n2_ := Aside0.mk ((by rw [hw]; exact setRow_heap _ _ _ _ _ _ (blk_y BK212.out) : w78.heap[gb212]? = some (.cells #[.int .i64 ((rd_T68 l0_5 x11_3).f0), .int .i64 ((rd_T68 l0_5 x11_3).f1), .string ((rd_T68 l0_5 x11_3).f2), .string ((rd_T68 l0_5 x11_3).f3), .string ((rd_T68 l0_5 x11_3).f4), .int .i64 ((rd_T68 l0_5 x11_3).f5), .int .i64 ((rd_T68 l0_5 x11_3).f6), .int .i64 ((rd_T68 l0_5 x11_3).f7), .int .i64 ((rd_T68 l0_5 x11_3).f8), .bool ((rd_T68 l0_5 x11_3).f9), .int .i64 ((rd_T68 l0_5 x11_3).f10), .int .i64 ((rd_T68 l0_5 x11_3).f11), .int .i64 ((rd_T68 l0_5 x11_3).f12), .string ((rd_T68 l0_5 x11_3).f13), .int .i64 ((rd_T68 l0_5 x11_3).f14), .int .i64 ((rd_T68 l0_5 x11_3).f15), .string ((rd_T68 l0_5 x11_3).f16), .int .i64 ((rd_T68 l0_5 x11_3).f17), .int .i64 ((rd_T68 l0_5 x11_3).f18), .string ((rd_T68 l0_5 x11_3).f19)] 68 (0, 0)))); have n3_ := Aside0.mk ((by rw [hw]; exact below_setRow (below_y HB.out) GE212.out _ : Below w.heap.size w w78)); clear BK196; clear BK202; clear BK212; clear HB; have BK196 := n0_; have BK202 := n1_; have BK212 := n2_; have HB := n3_; clear n0_ n1_ n2_ n3_; clear hg hw; have hcz79_0 := bc BK202.out 0 (.int .i64 t199) rfl; have hcz79_1 := bc BK202.out 1 (.int .i64 t200) rfl; have hfz79_0 := blk_frozen BK202.out 0; have hfz79_1 := blk_frozen BK202.out 1; have hcz80_0 := bc BK212.out 0 (.int .i64 ((rd_T68 l0_5 x11_3).f0)) rfl; have hcz80_1 := bc BK212.out 1 (.int .i64 ((rd_T68 l0_5 x11_3).f1)) rfl; have hcz80_2 := bc BK212.out 2 (.string ((rd_T68 l0_5 x11_3).f2)) rfl; have hcz80_3 := bc BK212.out 3 (.string ((rd_T68 l0_5 x11_3).f3)) rfl; have hcz80_4 := bc BK212.out 4 (.string ((rd_T68 l0_5 x11_3).f4)) rfl; have hcz80_5 := bc BK212.out 5 (.int .i64 ((rd_T68 l0_5 x11_3).f5)) rfl; have hcz80_6 := bc BK212.out 6 (.int .i64 ((rd_T68 l0_5 x11_3).f6)) rfl; have hcz80_7 := bc BK212.out 7 (.int .i64 ((rd_T68 l0_5 x11_3).f7)) rfl; have hcz80_8 := bc BK212.out 8 (.int .i64 ((rd_T68 l0_5 x11_3).f8)) rfl; have hcz80_9 := bc BK212.out 9 (.bool ((rd_T68 l0_5 x11_3).f9)) rfl; have hcz80_10 := bc BK212.out 10 (.int .i64 ((rd_T68 l0_5 x11_3).f10)) rfl; have hcz80_11 := bc BK212.out 11 (.int .i64 ((rd_T68 l0_5 x11_3).f11)) rfl; have hcz80_12 := bc BK212.out 12 (.int .i64 ((rd_T68 l0_5 x11_3).f12)) rfl; have hcz80_13 := bc BK212.out 13 (.string ((rd_T68 l0_5 x11_3).f13)) rfl; have hcz80_14 := bc BK212.out 14 (.int .i64 ((rd_T68 l0_5 x11_3).f14)) rfl; have hcz80_15 := bc BK212.out 15 (.int .i64 ((rd_T68 l0_5 x11_3).f15)) rfl; have hcz80_16 := bc BK212.out 16 (.string ((rd_T68 l0_5 x11_3).f16)) rfl; have hcz80_17 := bc BK212.out 17 (.int .i64 ((rd_T68 l0_5 x11_3).f17)) rfl; have hcz80_18 := bc BK212.out 18 (.int .i64 ((rd_T68 l0_5 x11_3).f18)) rfl; have hcz80_19 := bc BK212.out 19 (.string ((rd_T68 l0_5 x11_3).f19)) rfl; have hfz80_0 := blk_frozen BK212.out 0; have hfz80_1 := blk_frozen BK212.out 1; have hfz80_2 := blk_frozen BK212.out 2; have hfz80_3 := blk_frozen BK212.out 3; have hfz80_4 := blk_frozen BK212.out 4; have hfz80_5 := blk_frozen BK212.out 5; have hfz80_6 := blk_frozen BK212.out 6; have hfz80_7 := blk_frozen BK212.out 7; have hfz80_8 := blk_frozen BK212.out 8; have hfz80_9 := blk_frozen BK212.out 9; have hfz80_10 := blk_frozen BK212.out 10; have hfz80_11 := blk_frozen BK212.out 11; have hfz80_12 := blk_frozen BK212.out 12; have hfz80_13 := blk_frozen BK212.out 13; have hfz80_14 := blk_frozen BK212.out 14; have hfz80_15 := blk_frozen BK212.out 15; have hfz80_16 := blk_frozen BK212.out 16; have hfz80_17 := blk_frozen BK212.out 17; have hfz80_18 := blk_frozen BK212.out 18; have hfz80_19 := blk_frozen BK212.out 19) | (go_at_call 43; (with_reducible refine (newsreelref43_Waits.calls ((rd_T68 l0_5 x11_3).f0) ((rd_T68 l0_5 x11_3).f1) ((rd_T68 l0_5 x11_3).f2) ((rd_T68 l0_5 x11_3).f3) ((rd_T68 l0_5 x11_3).f4) ((rd_T68 l0_5 x11_3).f5) ((rd_T68 l0_5 x11_3).f6) ((rd_T68 l0_5 x11_3).f7) ((rd_T68 l0_5 x11_3).f8) ((rd_T68 l0_5 x11_3).f9) ((rd_T68 l0_5 x11_3).f10) ((rd_T68 l0_5 x11_3).f11) ((rd_T68 l0_5 x11_3).f12) ((rd_T68 l0_5 x11_3).f13) ((rd_T68 l0_5 x11_3).f14) ((rd_T68 l0_5 x11_3).f15) ((rd_T68 l0_5 x11_3).f16) ((rd_T68 l0_5 x11_3).f17) ((rd_T68 l0_5 x11_3).f18) ((rd_T68 l0_5 x11_3).f19) true _ A70.out).mono ?_); rintro e w81 ⟨rfl, hb⟩; have n0_ := Aside0.mk (blk_below (blk_y BK196.out) hb); have n1_ := Aside0.mk (blk_below (blk_y BK202.out) hb); have n2_ := Aside0.mk (blk_below (blk_y BK212.out) hb); have n3_ := Aside0.mk (below_step (below_y HB.out) hb); clear BK196; clear BK202; clear BK212; clear HB; have BK196 := n0_; have BK202 := n1_; have BK212 := n2_; have HB := n3_; clear n0_ n1_ n2_ n3_; (try clear hb); (try clear hb2); (try clear hk); (try clear hi); have hcz82_0 := bc BK212.out 0 (.int .i64 ((rd_T68 l0_5 x11_3).f0)) rfl; have hcz82_1 := bc BK212.out 1 (.int .i64 ((rd_T68 l0_5 x11_3).f1)) rfl; have hcz82_2 := bc BK212.out 2 (.string ((rd_T68 l0_5 x11_3).f2)) rfl; have hcz82_3 := bc BK212.out 3 (.string ((rd_T68 l0_5 x11_3).f3)) rfl; have hcz82_4 := bc BK212.out 4 (.string ((rd_T68 l0_5 x11_3).f4)) rfl; have hcz82_5 := bc BK212.out 5 (.int .i64 ((rd_T68 l0_5 x11_3).f5)) rfl; have hcz82_6 := bc BK212.out 6 (.int .i64 ((rd_T68 l0_5 x11_3).f6)) rfl; have hcz82_7 := bc BK212.out 7 (.int .i64 ((rd_T68 l0_5 x11_3).f7)) rfl; have hcz82_8 := bc BK212.out 8 (.int .i64 ((rd_T68 l0_5 x11_3).f8)) rfl; have hcz82_9 := bc BK212.out 9 (.bool ((rd_T68 l0_5 x11_3).f9)) rfl; have hcz82_10 := bc BK212.out 10 (.int .i64 ((rd_T68 l0_5 x11_3).f10)) rfl; have hcz82_11 := bc BK212.out 11 (.int .i64 ((rd_T68 l0_5 x11_3).f11)) rfl; have hcz82_12 := bc BK212.out 12 (.int .i64 ((rd_T68 l0_5 x11_3).f12)) rfl; have hcz82_13 := bc BK212.out 13 (.string ((rd_T68 l0_5 x11_3).f13)) rfl; have hcz82_14 := bc BK212.out 14 (.int .i64 ((rd_T68 l0_5 x11_3).f14)) rfl; have hcz82_15 := bc BK212.out 15 (.int .i64 ((rd_T68 l0_5 x11_3).f15)) rfl; have hcz82_16 := bc BK212.out 16 (.string ((rd_T68 l0_5 x11_3).f16)) rfl; have hcz82_17 := bc BK212.out 17 (.int .i64 ((rd_T68 l0_5 x11_3).f17)) rfl; have hcz82_18 := bc BK212.out 18 (.int .i64 ((rd_T68 l0_5 x11_3).f18)) rfl; have hcz82_19 := bc BK212.out 19 (.string ((rd_T68 l0_5 x11_3).f19)) rfl; have hfz82_0 := blk_frozen BK212.out 0; have hfz82_1 := blk_frozen BK212.out 1; have hfz82_2 := blk_frozen BK212.out 2; have hfz82_3 := blk_frozen BK212.out 3; have hfz82_4 := blk_frozen BK212.out 4; have hfz82_5 := blk_frozen BK212.out 5; have hfz82_6 := blk_frozen BK212.out 6; have hfz82_7 := blk_frozen BK212.out 7; have hfz82_8 := blk_frozen BK212.out 8; have hfz82_9 := blk_frozen BK212.out 9; have hfz82_10 := blk_frozen BK212.out 10; have hfz82_11 := blk_frozen BK212.out 11; have hfz82_12 := blk_frozen BK212.out 12; have hfz82_13 := blk_frozen BK212.out 13; have hfz82_14 := blk_frozen BK212.out 14; have hfz82_15 := blk_frozen BK212.out 15; have hfz82_16 := blk_frozen BK212.out 16; have hfz82_17 := blk_frozen BK212.out 17; have hfz82_18 := blk_frozen BK212.out 18; have hfz82_19 := blk_frozen BK212.out 19; refine stopH_ ?_))
      as_aux_lemma =>
        refine gostop_ ?_
        go_wp2
        go_roundg k3
        case measure => have := HJ6.out; have := HK2.out; have := HK3.out; omega
        case rel => exact ⟨(decide (((rd_T68 l0_5 x11_3).f12) ≤ a1)), (wrap64 (x11_3 + 1)), (by first | rfl | (simp; done) | (simp [*]; done)), (by first | rfl | (simp; done) | (simp [*]; done)), H', ⟨by have := HJ6.out; have := HK2.out; have := HK3.out; omega⟩, ⟨by (with_reducible repeat (first | refine blk_drewN ?_ _ | refine blk_drew ?_ | refine blk_alloc ?_ _)); exact BK196.out⟩, ⟨by (with_reducible repeat (first | refine blk_drewN ?_ _ | refine blk_drew ?_ | refine blk_alloc ?_ _)); exact BK202.out⟩, ⟨by repeat (first | (with_reducible first | exact HB.out | apply below_alloc | apply pw_below_drewN | apply below_drew1 | refine below_set ?_ GE196.out | refine below_set ?_ GE202.out | refine below_set ?_ GE212.out) | exact HB.out)⟩⟩

end Go.Proofs.Ytkkikdjfigffhaa.XPit
