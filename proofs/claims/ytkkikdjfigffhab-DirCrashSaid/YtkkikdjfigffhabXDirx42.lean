-- By a program of this work (xprint.py) over the translation; Lean checks it.
import Derived.Test.YtkkikdjfigffhabXDirx0
import Derived.Test.YtkkikdjfigffhabXDirx19
import Derived.Test.YtkkikdjfigffhabXDirx21
import Derived.Test.YtkkikdjfigffhabXDirx23
import Derived.Test.YtkkikdjfigffhabXDirx24
import Derived.Test.YtkkikdjfigffhabXDirx25
import Derived.Test.YtkkikdjfigffhabXDirx27
import Derived.Test.YtkkikdjfigffhabXDirx36
import Derived.Test.YtkkikdjfigffhabXDirx40
import Derived.Test.YtkkikdjfigffhabXDirx41
namespace Go.Proofs.Ytkkikdjfigffhab.XDir
open Go.RowKit Go.Proofs.YtkkikdjfigffhabW.PrintWords Go.Proofs.YtkkikdjfigffhabW.PrintLast Go.Proofs.YtkkikdjfigffhabW.PrintMore
attribute [local go_sem] Instr.field asAgg part max2_int min2_int max_two min_two max_three min_three max_four min_four   -- for this text's walks alone
set_option linter.unusedVariables false
set_option linter.unusedSimpArgs false

/-! ### newsreellaw10_DirCrash: function 10 -/
mutual
def newsreellaw10_DirCrash.l0 : Nat → List (S69) → List Bool → Int → Int → Option (Bool)
 | 0, _, _, _, _ => none
 | k + 1, x0, x1, x2, x7 => if x7 < (x0.length : Int) then (if 0 ≤ x7 then (if (((rd_T69 x0 x7).f1).size : Int) > 100 then ((newsreellaw10_awake.f k).bind fun t512 => (some t512)) else (if (((rd_T69 x0 x7).f2).size : Int) > 100 then ((newsreellaw10_awake.f k).bind fun t514 => (some t514)) else (newsreellaw10_DirCrash.l0 k x0 x1 x2 (wrap64 (x7 + 1))))) else (none)) else ((newsreelref10_Made.f k x0 x1).bind fun bt515 => ((dir_Sync.f k bt515.1 bt515.2.1 bt515.2.2).bind fun bt525 => ((dir_Right.f k bt515.1 bt515.2.1 bt515.2.2).bind fun t535 => (if t535 = true then ((dir_Crash.f k bt525.1 bt525.2.1 bt525.2.2 x2).bind fun bt536 => ((newsreelref10_Entries.f k bt536.1 bt515.1).bind fun t545 => (if t545 = true then ((dir_Crash.f k bt515.1 bt515.2.1 bt515.2.2 (bt515.2.2.length : Int)).bind fun bt546 => ((newsreelref10_Entries.f k bt546.1 bt515.1).bind fun t555 => (if t555 = true then ((dir_Crash.f k bt515.1 bt515.2.1 bt515.2.2 0).bind fun bt556 => ((newsreelref10_Entries.f k bt556.1 bt515.2.1).bind fun t565 => (newsreellaw10_DirCrash.j1 k x2 (!t565) bt525.1 bt525.2.1 bt525.2.2))) else (newsreellaw10_DirCrash.j1 k x2 true bt525.1 bt525.2.1 bt525.2.2)))) else (newsreellaw10_DirCrash.j1 k x2 true bt525.1 bt525.2.1 bt525.2.2)))) else (newsreellaw10_DirCrash.j1 k x2 true bt525.1 bt525.2.1 bt525.2.2)))))
def newsreellaw10_DirCrash.j1 : Nat → Int → Bool → List (S77) → List (S77) → List (S69) → Option (Bool)
 | 0, _, _, _, _, _ => none
 | k + 1, x2, x83, x535000, x535001, x535002 => if x83 = true then (some false) else (if (x535000.length : Int) = 0 then ((newsreellaw10_awake.f k).bind fun t566 => (some t566)) else (if 0 < (x535000.length : Int) then ((dir_Do.f k x535000 x535001 x535002 2 ((rd_T77 x535000 0).f0) (⟨#[122, 122]⟩ : ByteArray) 0).bind fun bt569 => (if bt569.2.2.2 = 0 then ((dir_Crash.f k bt569.1 bt569.2.1 bt569.2.2.1 x2).bind fun bt581 => ((dir_Find.f bt581.1 bt581.2.1 bt581.2.2 ((rd_T77 x535000 0).f0)).bind fun bt591 => ((dir_Find.f bt581.1 bt581.2.1 bt581.2.2 (⟨#[122, 122]⟩ : ByteArray)).bind fun bt593 => (if bt591.2 = true then (if bt591.1 = ((rd_T77 x535000 0).f1) then (if bt593.2 = true then (if bt593.1 = ((rd_T77 x535000 0).f1) then ((newsreellaw10_had.f x535000 x535001 x535002 bt593.1).bind fun t595 => (if (¬ (t595 = true)) then (some false) else ((newsreellaw10_awake.f k).bind fun t596 => (some t596)))) else ((newsreellaw10_awake.f k).bind fun t597 => (some t597))) else ((newsreellaw10_awake.f k).bind fun t598 => (some t598))) else (some false)) else (if bt593.2 = true then (if bt593.1 = ((rd_T77 x535000 0).f1) then ((newsreellaw10_awake.f k).bind fun t599 => (some t599)) else (some false)) else (some false)))))) else (if ((rd_T77 x535000 0).f0).toList = ([122, 122] : List UInt8) then ((newsreellaw10_awake.f k).bind fun t580 => (some t580)) else (some false)))) else (none)))
end
def newsreellaw10_DirCrash.f (k : Nat) (l0 : List (S69)) (l1 : List Bool) (a2 : Int) : Option (Bool) := if (l0.length : Int) > 30 then ((newsreellaw10_awake.f k).bind fun t510 => (some t510)) else (newsreellaw10_DirCrash.l0 k l0 l1 a2 0)
theorem newsreellaw10_DirCrash.mono_l : ∀ k, (∀ y0 y1 y2 y3, LeO (newsreellaw10_DirCrash.l0 k y0 y1 y2 y3) (newsreellaw10_DirCrash.l0 (k + 1) y0 y1 y2 y3)) ∧ (∀ y0 y1 y2 y3 y4, LeO (newsreellaw10_DirCrash.j1 k y0 y1 y2 y3 y4) (newsreellaw10_DirCrash.j1 (k + 1) y0 y1 y2 y3 y4))
 | 0 => ⟨fun _ _ _ _ r h => by simp [newsreellaw10_DirCrash.l0] at h, fun _ _ _ _ _ r h => by simp [newsreellaw10_DirCrash.j1] at h⟩
 | k + 1 => by
  obtain ⟨ih0, ih1⟩ := newsreellaw10_DirCrash.mono_l k
  refine ⟨?_, ?_⟩
  ·intro y0 y1 y2 y3
   unfold newsreellaw10_DirCrash.l0
   repeat' first
   | (with_reducible exact ih0 _ _ _ _)
   | (with_reducible exact ih1 _ _ _ _ _)
   | (with_reducible exact dir_Crash.mono _ _ _ _ _)
   | (with_reducible exact dir_Do.mono _ _ _ _ _ _ _ _)
   | (with_reducible exact dir_Right.mono _ _ _ _)
   | (with_reducible exact dir_Sync.mono _ _ _ _)
   | (with_reducible exact newsreellaw10_awake.mono _)
   | (with_reducible exact newsreelref10_Entries.mono _ _ _)
   | (with_reducible exact newsreelref10_Made.mono _ _ _)
   | (with_reducible exact LeO.refl _)
   | (with_reducible exact LeO.none _)
   | (with_reducible refine LeO.ite ?_ ?_)
   | (with_reducible refine LeO.bind ?_ (fun _ => ?_))
   | exact ih0 _ _ _ _
   | exact ih1 _ _ _ _ _
   | exact dir_Crash.mono _ _ _ _ _
   | exact dir_Do.mono _ _ _ _ _ _ _ _
   | exact dir_Right.mono _ _ _ _
   | exact dir_Sync.mono _ _ _ _
   | exact newsreellaw10_awake.mono _
   | exact newsreelref10_Entries.mono _ _ _
   | exact newsreelref10_Made.mono _ _ _
   | exact LeO.none _
   | refine LeO.ite ?_ ?_
   | refine LeO.bind ?_ (fun _ => ?_)
  ·intro y0 y1 y2 y3 y4
   unfold newsreellaw10_DirCrash.j1
   repeat' first
   | (with_reducible exact ih0 _ _ _ _)
   | (with_reducible exact ih1 _ _ _ _ _)
   | (with_reducible exact dir_Crash.mono _ _ _ _ _)
   | (with_reducible exact dir_Do.mono _ _ _ _ _ _ _ _)
   | (with_reducible exact dir_Right.mono _ _ _ _)
   | (with_reducible exact dir_Sync.mono _ _ _ _)
   | (with_reducible exact newsreellaw10_awake.mono _)
   | (with_reducible exact newsreelref10_Entries.mono _ _ _)
   | (with_reducible exact newsreelref10_Made.mono _ _ _)
   | (with_reducible exact LeO.refl _)
   | (with_reducible exact LeO.none _)
   | (with_reducible refine LeO.ite ?_ ?_)
   | (with_reducible refine LeO.bind ?_ (fun _ => ?_))
   | exact ih0 _ _ _ _
   | exact ih1 _ _ _ _ _
   | exact dir_Crash.mono _ _ _ _ _
   | exact dir_Do.mono _ _ _ _ _ _ _ _
   | exact dir_Right.mono _ _ _ _
   | exact dir_Sync.mono _ _ _ _
   | exact newsreellaw10_awake.mono _
   | exact newsreelref10_Entries.mono _ _ _
   | exact newsreelref10_Made.mono _ _ _
   | exact LeO.none _
   | refine LeO.ite ?_ ?_
   | refine LeO.bind ?_ (fun _ => ?_)
theorem newsreellaw10_DirCrash.mono : ∀ a0 a1 a2 k, LeO (newsreellaw10_DirCrash.f k a0 a1 a2) (newsreellaw10_DirCrash.f (k + 1) a0 a1 a2) := by
 intro a0 a1 a2 k
 obtain ⟨ih0, ih1⟩ := newsreellaw10_DirCrash.mono_l k
 unfold newsreellaw10_DirCrash.f
 repeat' first
   | (with_reducible exact ih0 _ _ _ _)
   | (with_reducible exact ih1 _ _ _ _ _)
   | (with_reducible exact dir_Crash.mono _ _ _ _ _)
   | (with_reducible exact dir_Do.mono _ _ _ _ _ _ _ _)
   | (with_reducible exact dir_Right.mono _ _ _ _)
   | (with_reducible exact dir_Sync.mono _ _ _ _)
   | (with_reducible exact newsreellaw10_awake.mono _)
   | (with_reducible exact newsreelref10_Entries.mono _ _ _)
   | (with_reducible exact newsreelref10_Made.mono _ _ _)
   | (with_reducible exact LeO.refl _)
   | (with_reducible exact LeO.none _)
   | (with_reducible refine LeO.ite ?_ ?_)
   | (with_reducible refine LeO.bind ?_ (fun _ => ?_))
   | exact ih0 _ _ _ _
   | exact ih1 _ _ _ _ _
   | exact dir_Crash.mono _ _ _ _ _
   | exact dir_Do.mono _ _ _ _ _ _ _ _
   | exact dir_Right.mono _ _ _ _
   | exact dir_Sync.mono _ _ _ _
   | exact newsreellaw10_awake.mono _
   | exact newsreelref10_Entries.mono _ _ _
   | exact newsreelref10_Made.mono _ _ _
   | exact LeO.none _
   | refine LeO.ite ?_ ?_
   | refine LeO.bind ?_ (fun _ => ?_)
def newsreellaw10_DirCrash.T10 : Bool × List (List Nat × List Nat) := (true, [([], []), ([0], [0]), ([1], [1]), ([2, 1], [2]), ([3], [3]), ([3], [3]), ([4, 5, 3, 3], [3, 4, 5]), ([6, 3], [3, 6]), ([3], [3]), ([8, 3], [3, 8]), ([7, 9, 6, 3], [3, 7, 9]), ([10, 3], [3, 10]), ([3, 11], [3, 11]), ([12, 10], [12]), ([13], [13]), ([13], [13]), ([15, 13], [13, 15]), ([16, 13], [13, 16]), ([14, 17, 13, 13], [13, 14, 17]), ([18, 13], [13, 18]), ([13], [13]), ([20, 13], [13, 20]), ([19, 21, 18, 13], [13, 19, 21]), ([22, 13], [13, 22]), ([13, 23], [13, 23]), ([24, 22], [24]), ([25], [25]), ([26, 25, 25], [25, 26]), ([27, 25], [25, 27]), ([25], [25]), ([29, 25], [25, 29]), ([28, 30, 27, 25], [25, 28, 30]), ([31, 25], [25, 31]), ([25, 32], [25, 32])])
def newsreellaw10_DirCrash.B10 : List Nat := [0, 1, 3, 7, 15, 15, 63, 127, 15, 271, 1023, 2047, 4095, 8191, 16383, 16383, 49151, 114687, 262143, 524287, 16383, 1064959, 4194303, 8388607, 16777215, 33554431, 67108863, 134217727, 268435455, 67108863, 603979775, 2147483647, 4294967295, 8589934591]
theorem newsreellaw10_DirCrash.tab10 : rtab .any (opsOf Try.f10 10) = newsreellaw10_DirCrash.T10 := by kernel_rfl
theorem newsreellaw10_DirCrash.bits10 : waitsOk newsreellaw10_DirCrash.T10.2 newsreellaw10_DirCrash.B10 = true := by kernel_rfl
set_option maxHeartbeats 8000000 in
set_option maxRecDepth 100000 in
theorem newsreellaw10_DirCrash.calls (k : Nat) (A0 : Option Addr) (c0 : Nat) (l0 : List (S69)) (A1 : Option Addr) (c1 : Nat) (l1 : List Bool) (a2 : Int) (r : Bool) (w : World) (hr0 : Kd.C k69 w A0 l0.length l0) (hc0 : l0.length ≤ c0) (hr1 : Kd.C Kd.bool w A1 l1.length l1) (hc1 : l1.length ≤ c1) (ht_ : r = true) (h : newsreellaw10_DirCrash.f k l0 l1 a2 = some r) :
  Calls Try.prog 10 #[.slice A0 l0.length c0, .slice A1 l1.length c1, .int .i64 a2] w fun e w' => e = .returned (.bool r) ∧ Below w.heap.size w w' := by
 have hu67 := Try.underlying67
 have hu77 := Try.underlying77
 have hu69 := Try.underlying69
 have HR0 := mkA hr0
 have HC0 := mkA hc0
 clear hr0 hc0
 have HR1 := mkA hr1
 have HC1 := mkA hc1
 clear hr1 hc1
 have HB := mkA (Below.refl w.heap.size w)
 have H : (if (l0.length : Int) > 30 then ((newsreellaw10_awake.f k).bind fun t510 => (some t510)) else (newsreellaw10_DirCrash.l0 k l0 l1 a2 0)) = some r := h
 clear h
 by_cases c4 : (l0.length : Int) > 30
 ·rw [if_pos c4] at H
  have c4b0 : decide (30 < (l0.length : Int)) = true := decide_eq_true c4
  have c4b1 : decide (30 < l0.length) = true := decide_eq_true (by omega)
  clear c4
  replace H := Option.bind_eq_some_iff.mp H
  obtain ⟨t510, A50, H⟩ := H
  replace H : (some t510) = some r := H
  have A5 := mkA A50
  clear A50
  as_aux_lemma =>
   obtain rfl := Option.some.inj H
   go_enter Try.func10, Try.ntmps10
   go_wp2_with (first | ((with_reducible refine gate_callee (f := 41) rfl ?_); refine goesL_ (some 21) rfl rfl Try.func41 (by kernel_rfl) rfl #[] rfl ca ?_; (with_reducible refine (newsreellaw10_awake.calls k  t510 _ A5.out).mono ?_); rintro e w6 ⟨rfl, hb⟩; refine ⟨_, rfl, ?_⟩; have n0_ := mkA (below_step (below_y HB.out) hb); clear HB; have HB := n0_; clear n0_; (try clear hb); (try clear hb2); (try clear hk); (try clear hi)))
   go_ret
   exact ⟨by first | rfl | (simp [errW_none, errW_some] <;> rfl) | (simp [*, errW_none, errW_some] <;> rfl), below_y HB.out⟩
 rw [if_neg c4] at H
 have c4b0 : decide (30 < (l0.length : Int)) = false := decide_eq_false c4
 have c4b1 : decide (30 < l0.length) = false := decide_eq_false (by omega)
 clear c4
 have H' := mkA H
 clear H
 go_enter Try.func10, Try.ntmps10
 go_wp2
 go_loopg [7] k (fun kq v7 w' => ∃ (x7_1 : Int), v7 = .int .i64 x7_1 ∧ Aside0 (newsreellaw10_DirCrash.l0 kq l0 l1 a2 x7_1 = some r) ∧ Aside0 (kq ≤ k) ∧ Aside0 (Below w.heap.size w w'))
 case atStart => exact ⟨(0), (by first | rfl | (simp; done) | (simp [*]; done)), H', ⟨Nat.le_refl _⟩, ⟨below_y HB.out⟩⟩
 clear H'
 try clear c1
 try clear p2
 try clear c4
 try clear c4b0
 try clear c4b1
 obtain ⟨x7_1, rfl, HA, HK1, HB⟩ := hrel
 rcases gk with _ | k1
 ·exact absurd HA.out (by simp [newsreellaw10_DirCrash.l0])
 have H := HA.out
 clear HA
 simp only [newsreellaw10_DirCrash.l0] at H
 by_cases c7 : x7_1 < (l0.length : Int)
 ·rw [if_pos c7] at H
  have c7b0 : decide (x7_1 < (l0.length : Int)) = true := decide_eq_true c7
  clear c7
  by_cases c8 : 0 ≤ x7_1
  ·rw [if_pos c8] at H
   have c8b0 : decide (0 ≤ x7_1) = true := decide_eq_true c8
   clear c8
   by_cases c9 : (((rd_T69 l0 x7_1).f1).size : Int) > 100
   ·rw [if_pos c9] at H
    have c9b0 : decide (100 < (((rd_T69 l0 x7_1).f1).size : Int)) = true := decide_eq_true c9
    have c9b1 : decide (100 < ((rd_T69 l0 x7_1).f1).size) = true := decide_eq_true (by omega)
    clear c9
    replace H := Option.bind_eq_some_iff.mp H
    obtain ⟨t512, A100, H⟩ := H
    replace H : (some t512) = some r := H
    have A10 := mkA A100
    clear A100
    as_aux_lemma =>
     obtain rfl := Option.some.inj H
     have p511 : 0 ≤ (x7_1 : Int) := odt
     have q511 : x7_1 < (l0.length : Int) := odt
     obtain ⟨ad511, e511, hx511_0, hx511_1, hx511_2, hx511_3⟩ := at_T69 HR0.out x7_1 p511 q511
     cases e511
     replace hx511_0 := (cb HB.out hx511_0).trans hx511_0
     replace hx511_1 := (cb HB.out hx511_1).trans hx511_1
     replace hx511_2 := (cb HB.out hx511_2).trans hx511_2
     replace hx511_3 := (cb HB.out hx511_3).trans hx511_3
     replace p511 := eq_true p511
     replace q511 := eq_true q511
     go_wp2_with (first | ((with_reducible refine gate_load (t := 69) rfl ?_); refine load_at2 (t := 69) ?hg ?ho (c0 := _) (cs := [_, _, _]) Try.underlying69 rfl (by kernel_rfl) hx511_0 ⟨hx511_1, hx511_2, hx511_3, trivial⟩ ?_; (case hg => rfl); (case ho => refine ⟨_, rfl, ?_⟩; first | (with_reducible rfl) | (go_simp; done))) | ((with_reducible refine gate_callee (f := 41) rfl ?_); refine goesL_ (some 44) rfl rfl Try.func41 (by kernel_rfl) rfl #[] rfl ca ?_; (with_reducible refine (newsreellaw10_awake.calls k1  t512 _ A10.out).mono ?_); rintro e w11 ⟨rfl, hb⟩; refine ⟨_, rfl, ?_⟩; have n0_ := mkA (below_step (below_y HB.out) hb); clear HB; have HB := n0_; clear n0_; (try clear hb); (try clear hb2); (try clear hk); (try clear hi)))
     go_ret
     exact ⟨by first | rfl | (simp [errW_none, errW_some] <;> rfl) | (simp [*, errW_none, errW_some] <;> rfl), below_y HB.out⟩
   ·rw [if_neg c9] at H
    have c9b0 : decide (100 < (((rd_T69 l0 x7_1).f1).size : Int)) = false := decide_eq_false c9
    have c9b1 : decide (100 < ((rd_T69 l0 x7_1).f1).size) = false := decide_eq_false (by omega)
    clear c9
    by_cases c12 : (((rd_T69 l0 x7_1).f2).size : Int) > 100
    ·rw [if_pos c12] at H
     have c12b0 : decide (100 < (((rd_T69 l0 x7_1).f2).size : Int)) = true := decide_eq_true c12
     have c12b1 : decide (100 < ((rd_T69 l0 x7_1).f2).size) = true := decide_eq_true (by omega)
     clear c12
     replace H := Option.bind_eq_some_iff.mp H
     obtain ⟨t514, A130, H⟩ := H
     replace H : (some t514) = some r := H
     have A13 := mkA A130
     clear A130
     as_aux_lemma =>
      obtain rfl := Option.some.inj H
      have p511 : 0 ≤ (x7_1 : Int) := odt
      have q511 : x7_1 < (l0.length : Int) := odt
      obtain ⟨ad511, e511, hx511_0, hx511_1, hx511_2, hx511_3⟩ := at_T69 HR0.out x7_1 p511 q511
      cases e511
      replace hx511_0 := (cb HB.out hx511_0).trans hx511_0
      replace hx511_1 := (cb HB.out hx511_1).trans hx511_1
      replace hx511_2 := (cb HB.out hx511_2).trans hx511_2
      replace hx511_3 := (cb HB.out hx511_3).trans hx511_3
      replace p511 := eq_true p511
      replace q511 := eq_true q511
      have p513 : 0 ≤ (x7_1 : Int) := odt
      have q513 : x7_1 < (l0.length : Int) := odt
      obtain ⟨ad513, e513, hx513_0, hx513_1, hx513_2, hx513_3⟩ := at_T69 HR0.out x7_1 p513 q513
      obtain rfl : ad511 = ad513 := (by injection e513)
      replace hx513_0 := (cb HB.out hx513_0).trans hx513_0
      replace hx513_1 := (cb HB.out hx513_1).trans hx513_1
      replace hx513_2 := (cb HB.out hx513_2).trans hx513_2
      replace hx513_3 := (cb HB.out hx513_3).trans hx513_3
      replace p513 := eq_true p513
      replace q513 := eq_true q513
      go_wp2_with (first | ((with_reducible refine gate_load (t := 69) rfl ?_); refine load_at2 (t := 69) ?hg ?ho (c0 := _) (cs := [_, _, _]) Try.underlying69 rfl (by kernel_rfl) hx511_0 ⟨hx511_1, hx511_2, hx511_3, trivial⟩ ?_; (case hg => rfl); (case ho => refine ⟨_, rfl, ?_⟩; first | (with_reducible rfl) | (go_simp; done))) | ((with_reducible refine gate_load (t := 69) rfl ?_); refine load_at2 (t := 69) ?hg ?ho (c0 := _) (cs := [_, _, _]) Try.underlying69 rfl (by kernel_rfl) hx513_0 ⟨hx513_1, hx513_2, hx513_3, trivial⟩ ?_; (case hg => rfl); (case ho => refine ⟨_, rfl, ?_⟩; first | (with_reducible rfl) | (go_simp; done))) | ((with_reducible refine gate_callee (f := 41) rfl ?_); refine goesL_ (some 44) rfl rfl Try.func41 (by kernel_rfl) rfl #[] rfl ca ?_; (with_reducible refine (newsreellaw10_awake.calls k1  t514 _ A13.out).mono ?_); rintro e w14 ⟨rfl, hb⟩; refine ⟨_, rfl, ?_⟩; have n0_ := mkA (below_step (below_y HB.out) hb); clear HB; have HB := n0_; clear n0_; (try clear hb); (try clear hb2); (try clear hk); (try clear hi)))
      go_ret
      exact ⟨by first | rfl | (simp [errW_none, errW_some] <;> rfl) | (simp [*, errW_none, errW_some] <;> rfl), below_y HB.out⟩
    ·rw [if_neg c12] at H
     have c12b0 : decide (100 < (((rd_T69 l0 x7_1).f2).size : Int)) = false := decide_eq_false c12
     have c12b1 : decide (100 < ((rd_T69 l0 x7_1).f2).size) = false := decide_eq_false (by omega)
     clear c12
     as_aux_lemma =>
      have H' := mkA H
      clear H
      have p511 : 0 ≤ (x7_1 : Int) := odt
      have q511 : x7_1 < (l0.length : Int) := odt
      obtain ⟨ad511, e511, hx511_0, hx511_1, hx511_2, hx511_3⟩ := at_T69 HR0.out x7_1 p511 q511
      cases e511
      replace hx511_0 := (cb HB.out hx511_0).trans hx511_0
      replace hx511_1 := (cb HB.out hx511_1).trans hx511_1
      replace hx511_2 := (cb HB.out hx511_2).trans hx511_2
      replace hx511_3 := (cb HB.out hx511_3).trans hx511_3
      replace p511 := eq_true p511
      replace q511 := eq_true q511
      have p513 : 0 ≤ (x7_1 : Int) := odt
      have q513 : x7_1 < (l0.length : Int) := odt
      obtain ⟨ad513, e513, hx513_0, hx513_1, hx513_2, hx513_3⟩ := at_T69 HR0.out x7_1 p513 q513
      obtain rfl : ad511 = ad513 := (by injection e513)
      replace hx513_0 := (cb HB.out hx513_0).trans hx513_0
      replace hx513_1 := (cb HB.out hx513_1).trans hx513_1
      replace hx513_2 := (cb HB.out hx513_2).trans hx513_2
      replace hx513_3 := (cb HB.out hx513_3).trans hx513_3
      replace p513 := eq_true p513
      replace q513 := eq_true q513
      go_wp2_with (first | ((with_reducible refine gate_load (t := 69) rfl ?_); refine load_at2 (t := 69) ?hg ?ho (c0 := _) (cs := [_, _, _]) Try.underlying69 rfl (by kernel_rfl) hx511_0 ⟨hx511_1, hx511_2, hx511_3, trivial⟩ ?_; (case hg => rfl); (case ho => refine ⟨_, rfl, ?_⟩; first | (with_reducible rfl) | (go_simp; done))) | ((with_reducible refine gate_load (t := 69) rfl ?_); refine load_at2 (t := 69) ?hg ?ho (c0 := _) (cs := [_, _, _]) Try.underlying69 rfl (by kernel_rfl) hx513_0 ⟨hx513_1, hx513_2, hx513_3, trivial⟩ ?_; (case hg => rfl); (case ho => refine ⟨_, rfl, ?_⟩; first | (with_reducible rfl) | (go_simp; done))))
      go_roundg k1
      case measure => have := HK1.out; omega
      case rel => exact ⟨(wrap64 (x7_1 + 1)), (by first | rfl | (simp; done) | (simp [*]; done)), H', ⟨by have := HK1.out; omega⟩, ⟨below_y HB.out⟩⟩
  ·rw [if_neg c8] at H
   exact absurd H (by simp)
 rw [if_neg c7] at H
 have c7b0 : decide (x7_1 < (l0.length : Int)) = false := decide_eq_false c7
 clear c7
 replace H := Option.bind_eq_some_iff.mp H
 obtain ⟨⟨t515, t518, t521⟩, A150, H⟩ := H
 replace H : ((dir_Sync.f k1 t515 t518 t521).bind fun bt525 => ((dir_Right.f k1 t515 t518 t521).bind fun t535 => (if t535 = true then ((dir_Crash.f k1 bt525.1 bt525.2.1 bt525.2.2 a2).bind fun bt536 => ((newsreelref10_Entries.f k1 bt536.1 t515).bind fun t545 => (if t545 = true then ((dir_Crash.f k1 t515 t518 t521 (t521.length : Int)).bind fun bt546 => ((newsreelref10_Entries.f k1 bt546.1 t515).bind fun t555 => (if t555 = true then ((dir_Crash.f k1 t515 t518 t521 0).bind fun bt556 => ((newsreelref10_Entries.f k1 bt556.1 t518).bind fun t565 => (newsreellaw10_DirCrash.j1 k1 a2 (!t565) bt525.1 bt525.2.1 bt525.2.2))) else (newsreellaw10_DirCrash.j1 k1 a2 true bt525.1 bt525.2.1 bt525.2.2)))) else (newsreellaw10_DirCrash.j1 k1 a2 true bt525.1 bt525.2.1 bt525.2.2)))) else (newsreellaw10_DirCrash.j1 k1 a2 true bt525.1 bt525.2.1 bt525.2.2)))) = some r := H
 have A15 := mkA A150
 clear A150
 replace H := Option.bind_eq_some_iff.mp H
 obtain ⟨⟨t525, t528, t531⟩, A160, H⟩ := H
 replace H : ((dir_Right.f k1 t515 t518 t521).bind fun t535 => (if t535 = true then ((dir_Crash.f k1 t525 t528 t531 a2).bind fun bt536 => ((newsreelref10_Entries.f k1 bt536.1 t515).bind fun t545 => (if t545 = true then ((dir_Crash.f k1 t515 t518 t521 (t521.length : Int)).bind fun bt546 => ((newsreelref10_Entries.f k1 bt546.1 t515).bind fun t555 => (if t555 = true then ((dir_Crash.f k1 t515 t518 t521 0).bind fun bt556 => ((newsreelref10_Entries.f k1 bt556.1 t518).bind fun t565 => (newsreellaw10_DirCrash.j1 k1 a2 (!t565) t525 t528 t531))) else (newsreellaw10_DirCrash.j1 k1 a2 true t525 t528 t531)))) else (newsreellaw10_DirCrash.j1 k1 a2 true t525 t528 t531)))) else (newsreellaw10_DirCrash.j1 k1 a2 true t525 t528 t531))) = some r := H
 have A16 := mkA A160
 clear A160
 have HC17 := mkA H
 clear H
 go_upto_region 10 with (first | ((with_reducible refine gate_callee (f := 55) rfl ?_); refine goesL_ (some 47) rfl rfl Try.func55 (by kernel_rfl) rfl #[.slice A0 l0.length c0, .slice A1 l1.length c1] rfl ca ?_; (with_reducible refine (newsreelref10_Made.calls k1 _ _ l0 _ _ l1 t515 t518 t521 _ ?side1 ?side2 ?side3 ?side4 A15.out).mono ?_); (case side1 => exact cz HR0.out HB.out); (case side2 => exact HC0.out); (case side3 => exact cz HR1.out HB.out); (case side4 => exact HC1.out); rintro e w18 ⟨v516, v519, v522, rfl, ho0, ho1, ho2, hb⟩; refine ⟨_, rfl, ?_⟩; have n0_ := mkA (Kd.V_lower (Kd.V_mono (ok' := fun k_ => some k_ ≠ (v522 : Value).ownBlock) ho0 (fun k_ hk_ => hk_.2)) (below_size (below_y HB.out))); have n1_ := mkA (Kd.V_lower (Kd.V_mono (ok' := fun k_ => some k_ ≠ (v522 : Value).ownBlock) ho1 (fun k_ hk_ => hk_.2)) (below_size (below_y HB.out))); have n2_ := mkA (Kd.R_lower (Kd.R_mono (ok' := fun k_ => True) ho2 (fun _ hk_ => trivial)) (below_size (below_y HB.out))); have n3_ := mkA (below_step (below_y HB.out) hb); clear HB; have HO517 := n0_; have HO520 := n1_; have HO523 := n2_; have HB := n3_; clear n0_ n1_ n2_ n3_; (try clear hb); (try clear hb2); (try clear hk); (try clear hi); (try clear ho0); (try clear ho1); (try clear ho2)) | ((with_reducible refine gate_dst (N := 8) rfl ?_); (try (refine gate_guard (by rfl) ?_; dsimp only)); refine box_event ?hg (N := 8) ?hd (cs := #[.slice none 0 0, .slice none 0 0, .slice none 0 0]) (t := 67) ?hr ?_; (case hd => rfl); (case hg => rfl); (case hr => first | (go_simp; done) | (go_simp; rfl)); intro gb524 hg w19 hbox hb; have n0_ := mkA (Kd.V_below (Kd.V_elderB (Kd.V_y HO517.out) gb524 (Nat.le_of_eq hg.symm)) hb); have n1_ := mkA (Kd.V_below (Kd.V_elderB (Kd.V_y HO520.out) gb524 (Nat.le_of_eq hg.symm)) hb); have n2_ := mkA (Kd.R_below (Kd.R_y HO523.out) hb); have n3_ := mkA (below_step (below_y HB.out) hb); have n4_ := mkA (hbox); have n5_ := mkA ((gz hg HB.out : w.heap.size ≤ gb524)); have n6_ := mkA ((gz hg HB.out : w.heap.size ≤ gb524)); clear HO517; clear HO520; clear HO523; clear HB; have HO517 := n0_; have HO520 := n1_; have HO523 := n2_; have HB := n3_; have BK524 := n4_; have GW524 := n5_; have GE524 := n6_; clear n0_ n1_ n2_ n3_ n4_ n5_ n6_; clear hb hbox hg; obtain ⟨Ao20, co20, eo20⟩ := Kd.V_slice HO517.out; subst eo20; have hcz21_0 := bc BK524.out 0 (.slice none 0 0) rfl; have hcz21_1 := bc BK524.out 1 (.slice none 0 0) rfl; have hcz21_2 := bc BK524.out 2 (.slice none 0 0) rfl; have hfz21_0 := blk_frozen BK524.out 0; have hfz21_1 := blk_frozen BK524.out 1; have hfz21_2 := blk_frozen BK524.out 2; obtain ⟨Ao22, co22, eo22⟩ := Kd.V_slice HO520.out; subst eo22; obtain ⟨Ao23, co23, eo23⟩ := Kd.R_slice HO523.out; subst eo23) | ((with_reducible refine gate_callee (f := 51) rfl ?_); refine goesL_ (some 49) rfl rfl Try.func51 (by kernel_rfl) rfl #[.agg #[.slice Ao20 t515.length co20, .slice Ao22 t518.length co22, .slice Ao23 t521.length co23]] rfl ca ?_; (with_reducible refine (dir_Sync.calls k1 _ _ t515 _ _ t518 _ _ t521 t525 t528 t531 _ ?side1 ?side2 ?side3 ?side4 ?side5 ?side6 A16.out).mono ?_); (case side1 => refine (Kd.V_reads' (e := 77) (base := w.heap.size) (ok := fun k_ => (some k_ ≠ (.slice Ao23 t521.length co23 : Value).ownBlock ∧ k_ ≠ gb524)) (n := t515.length) (c := co20) ?_).2.2; exact (by (with_reducible repeat (first | apply Kd.V_alloc | apply Kd.V_drewN | apply Kd.V_drew)); exact (Kd.V_mono (Kd.V_far (p := ⟨gb524, 2, none⟩) (Kd.V_far (p := ⟨gb524, 1, none⟩) (Kd.V_far (p := ⟨gb524, 0, none⟩) (Kd.V_mono HO517.out (fun k_ hk => (⟨hk, hk.2⟩ : _ ∧ k_ ≠ gb524))) (fun _ hk => hk.2) (.slice Ao20 t515.length co20)) (fun _ hk => hk.2) (.slice Ao22 t518.length co22)) (fun _ hk => hk.2) (.slice Ao23 t521.length co23)) (fun _ h_ => h_.1)))); (case side2 => exact (Kd.V_reads' HO517.out).2.1); (case side3 => refine (Kd.V_reads' (e := 77) (base := w.heap.size) (ok := fun k_ => (some k_ ≠ (.slice Ao23 t521.length co23 : Value).ownBlock ∧ k_ ≠ gb524)) (n := t518.length) (c := co22) ?_).2.2; exact (by (with_reducible repeat (first | apply Kd.V_alloc | apply Kd.V_drewN | apply Kd.V_drew)); exact (Kd.V_mono (Kd.V_far (p := ⟨gb524, 2, none⟩) (Kd.V_far (p := ⟨gb524, 1, none⟩) (Kd.V_far (p := ⟨gb524, 0, none⟩) (Kd.V_mono HO520.out (fun k_ hk => (⟨hk, hk.2⟩ : _ ∧ k_ ≠ gb524))) (fun _ hk => hk.2) (.slice Ao20 t515.length co20)) (fun _ hk => hk.2) (.slice Ao22 t518.length co22)) (fun _ hk => hk.2) (.slice Ao23 t521.length co23)) (fun _ h_ => h_.1)))); (case side4 => exact (Kd.V_reads' HO520.out).2.1); (case side5 => refine (Kd.R_reads' (e := 69) (base := w.heap.size) (ok := fun k_ => True) (n := t521.length) (c := co23) ?_).2.2; exact (by (with_reducible repeat (first | apply Kd.R_alloc | apply Kd.R_drewN | apply Kd.R_drew)); exact (Kd.R_mono (Kd.R_far (p := ⟨gb524, 2, none⟩) (Kd.R_far (p := ⟨gb524, 1, none⟩) (Kd.R_far (p := ⟨gb524, 0, none⟩) (Kd.R_types HO523.out BK524.out (by decide)) (fun _ hk => hk.2) (.slice Ao20 t515.length co20)) (fun _ hk => hk.2) (.slice Ao22 t518.length co22)) (fun _ hk => hk.2) (.slice Ao23 t521.length co23)) (fun _ h_ => h_.1)))); (case side6 => exact (Kd.R_reads' HO523.out).2.1); rintro e w24 ⟨v526, v529, v532, rfl, ho0, ho1, ho2, hb⟩; refine ⟨_, rfl, ?_⟩; have n0_ := mkA (Kd.V_mono (Kd.V_told (Kd.V_told (Kd.V_told (Kd.V_old (by (with_reducible repeat (first | apply Kd.V_alloc | apply Kd.V_drewN | apply Kd.V_drew)); exact (Kd.V_mono (Kd.V_far (p := ⟨gb524, 2, none⟩) (Kd.V_far (p := ⟨gb524, 1, none⟩) (Kd.V_far (p := ⟨gb524, 0, none⟩) (Kd.V_mono HO517.out (fun k_ hk => (⟨hk, hk.2⟩ : _ ∧ k_ ≠ gb524))) (fun _ hk => hk.2) (.slice Ao20 t515.length co20)) (fun _ hk => hk.2) (.slice Ao22 t518.length co22)) (fun _ hk => hk.2) (.slice Ao23 t521.length co23)) (fun _ h_ => h_.1))) hb) (Kd.R_base ho0)) (Kd.R_base ho1)) (Kd.R_base ho2)) (fun _ h_ => h_.1)); have n1_ := mkA (Kd.V_mono (Kd.V_told (Kd.V_told (Kd.V_told (Kd.V_old (by (with_reducible repeat (first | apply Kd.V_alloc | apply Kd.V_drewN | apply Kd.V_drew)); exact (Kd.V_mono (Kd.V_far (p := ⟨gb524, 2, none⟩) (Kd.V_far (p := ⟨gb524, 1, none⟩) (Kd.V_far (p := ⟨gb524, 0, none⟩) (Kd.V_mono HO520.out (fun k_ hk => (⟨hk, hk.2⟩ : _ ∧ k_ ≠ gb524))) (fun _ hk => hk.2) (.slice Ao20 t515.length co20)) (fun _ hk => hk.2) (.slice Ao22 t518.length co22)) (fun _ hk => hk.2) (.slice Ao23 t521.length co23)) (fun _ h_ => h_.1))) hb) (Kd.R_base ho0)) (Kd.R_base ho1)) (Kd.R_base ho2)) (fun _ h_ => h_.1)); have n2_ := mkA (Kd.R_elder' (by (with_reducible repeat (first | apply Kd.R_alloc | apply Kd.R_drewN | apply Kd.R_drew)); exact (Kd.R_mono (Kd.R_far (p := ⟨gb524, 2, none⟩) (Kd.R_far (p := ⟨gb524, 1, none⟩) (Kd.R_far (p := ⟨gb524, 0, none⟩) (Kd.R_types HO523.out BK524.out (by decide)) (fun _ hk => hk.2) (.slice Ao20 t515.length co20)) (fun _ hk => hk.2) (.slice Ao22 t518.length co22)) (fun _ hk => hk.2) (.slice Ao23 t521.length co23)) (fun _ h_ => h_.1))) (Kd.R_base ho2) hb); have n3_ := mkA (Kd.R_lower ho0 (below_size (below_y HB.out))); have n4_ := mkA (Kd.R_lower ho1 (below_size (below_y HB.out))); have n5_ := mkA (Kd.R_lower (Kd.R_new' ho2 (Kd.R_lt (by (with_reducible repeat (first | apply Kd.R_alloc | apply Kd.R_drewN | apply Kd.R_drew)); exact (Kd.R_mono (Kd.R_far (p := ⟨gb524, 2, none⟩) (Kd.R_far (p := ⟨gb524, 1, none⟩) (Kd.R_far (p := ⟨gb524, 0, none⟩) (Kd.R_types HO523.out BK524.out (by decide)) (fun _ hk => hk.2) (.slice Ao20 t515.length co20)) (fun _ hk => hk.2) (.slice Ao22 t518.length co22)) (fun _ hk => hk.2) (.slice Ao23 t521.length co23)) (fun _ h_ => h_.1))))) (below_size (below_y HB.out))); have n6_ := mkA (blk_below (g := gb524) (o := .cells #[.slice Ao20 t515.length co20, .slice Ao22 t518.length co22, .slice Ao23 t521.length co23] 67 (0, 0)) (by (with_reducible repeat (first | refine blk_drewN ?_ _ | refine blk_drew ?_ | refine blk_alloc ?_ _)); refine blk_put (cs := #[.slice Ao20 t515.length co20, .slice Ao22 t518.length co22, .slice none 0 0]) ?_ 2 _ rfl; (with_reducible repeat (first | refine blk_drewN ?_ _ | refine blk_drew ?_ | refine blk_alloc ?_ _)); refine blk_put (cs := #[.slice Ao20 t515.length co20, .slice none 0 0, .slice none 0 0]) ?_ 1 _ rfl; (with_reducible repeat (first | refine blk_drewN ?_ _ | refine blk_drew ?_ | refine blk_alloc ?_ _)); refine blk_put (cs := #[.slice none 0 0, .slice none 0 0, .slice none 0 0]) ?_ 0 _ rfl; (with_reducible repeat (first | refine blk_drewN ?_ _ | refine blk_drew ?_ | refine blk_alloc ?_ _)); exact BK524.out) hb); have n7_ := mkA (below_step (below_y HB.out) hb); clear HO517; clear HO520; clear HO523; clear BK524; clear HB; have HO517 := n0_; have HO520 := n1_; have HO523 := n2_; have HO527 := n3_; have HO530 := n4_; have HO533 := n5_; have BK524 := n6_; have HB := n7_; clear n0_ n1_ n2_ n3_ n4_ n5_ n6_ n7_; (try clear hb); (try clear hb2); (try clear hk); (try clear hi); (try clear ho0); (try clear ho1); (try clear ho2)) | ((with_reducible refine gate_dst (N := 9) rfl ?_); (try (refine gate_guard (by rfl) ?_; dsimp only)); refine box_event ?hg (N := 9) ?hd (cs := #[.slice none 0 0, .slice none 0 0, .slice none 0 0]) (t := 67) ?hr ?_; (case hd => rfl); (case hg => rfl); (case hr => first | (go_simp; done) | (go_simp; rfl)); intro gb534 hg w25 hbox hb; have n0_ := mkA (Kd.V_below (Kd.V_elderB (Kd.V_y HO517.out) gb534 (Nat.le_of_eq hg.symm)) hb); have n1_ := mkA (Kd.V_below (Kd.V_elderB (Kd.V_y HO520.out) gb534 (Nat.le_of_eq hg.symm)) hb); have n2_ := mkA (Kd.R_below (Kd.R_y HO523.out) hb); have n3_ := mkA (Kd.R_below (Kd.R_y HO527.out) hb); have n4_ := mkA (Kd.R_below (Kd.R_y HO530.out) hb); have n5_ := mkA (Kd.R_below (Kd.R_y HO533.out) hb); have n6_ := mkA (blk_below (blk_y BK524.out) hb); have n7_ := mkA (below_step (below_y HB.out) hb); have n8_ := mkA (hbox); have n9_ := mkA ((gz hg HB.out : w.heap.size ≤ gb534)); have n10_ := mkA ((gz hg HB.out : w.heap.size ≤ gb534)); have n11_ := mkA ((gn hg BK524.out : gb524 ≠ gb534)); have n12_ := mkA ((gm hg BK524.out : gb534 ≠ gb524)); clear HO517; clear HO520; clear HO523; clear HO527; clear HO530; clear HO533; clear BK524; clear HB; have HO517 := n0_; have HO520 := n1_; have HO523 := n2_; have HO527 := n3_; have HO530 := n4_; have HO533 := n5_; have BK524 := n6_; have HB := n7_; have BK534 := n8_; have GW534 := n9_; have GE534 := n10_; have NB524_534 := n11_; have NB534_524 := n12_; clear n0_ n1_ n2_ n3_ n4_ n5_ n6_ n7_ n8_ n9_ n10_ n11_ n12_; clear hb hbox hg; obtain ⟨Ao26, co26, eo26⟩ := Kd.R_slice HO527.out; subst eo26; have hnb27 := NB534_524.out; have hnc27 := NB524_534.out; have hcz28_0 := bc BK534.out 0 (.slice none 0 0) rfl; have hcz28_1 := bc BK534.out 1 (.slice none 0 0) rfl; have hcz28_2 := bc BK534.out 2 (.slice none 0 0) rfl; have hfz28_0 := blk_frozen BK534.out 0; have hfz28_1 := blk_frozen BK534.out 1; have hfz28_2 := blk_frozen BK534.out 2; obtain ⟨Ao29, co29, eo29⟩ := Kd.R_slice HO530.out; subst eo29; obtain ⟨Ao30, co30, eo30⟩ := Kd.R_slice HO533.out; subst eo30))
 (try simp only [Act.put, sA, s0, sS])
 go_cut [83] (fun v83 wc => ∃ (kq : Nat) (x83_16 : Bool), v83 = .bool x83_16 ∧ Aside0 (newsreellaw10_DirCrash.j1 kq a2 x83_16 t525 t528 t531 = some r) ∧ Aside0 (kq ≤ k1) ∧ Aside0 (Kd.V k77 77 wc w.heap.size (fun k_ => some k_ ≠ ((.slice Ao23 t521.length co23) : Value).ownBlock ∧ some k_ ≠ ((.slice Ao26 t525.length co26) : Value).ownBlock ∧ some k_ ≠ ((.slice Ao29 t528.length co29) : Value).ownBlock ∧ some k_ ≠ ((.slice Ao30 t531.length co30) : Value).ownBlock ∧ k_ ≠ gb524 ∧ k_ ≠ gb534) (.slice Ao20 t515.length co20) t515) ∧ Aside0 (Kd.V k77 77 wc w.heap.size (fun k_ => some k_ ≠ ((.slice Ao23 t521.length co23) : Value).ownBlock ∧ some k_ ≠ ((.slice Ao26 t525.length co26) : Value).ownBlock ∧ some k_ ≠ ((.slice Ao29 t528.length co29) : Value).ownBlock ∧ some k_ ≠ ((.slice Ao30 t531.length co30) : Value).ownBlock ∧ k_ ≠ gb524 ∧ k_ ≠ gb534) (.slice Ao22 t518.length co22) t518) ∧ Aside0 (Kd.R k69 69 wc w.heap.size (fun k_ => some k_ ≠ ((.slice Ao30 t531.length co30) : Value).ownBlock) (.slice Ao23 t521.length co23) t521) ∧ Aside0 (Kd.R k77 77 wc w.heap.size (fun k_ => some k_ ≠ ((.slice Ao29 t528.length co29) : Value).ownBlock) (.slice Ao26 t525.length co26) t525) ∧ Aside0 (Kd.R k77 77 wc w.heap.size (fun k_ => some k_ ≠ ((.slice Ao26 t525.length co26) : Value).ownBlock) (.slice Ao29 t528.length co29) t528) ∧ Aside0 (Kd.R k69 69 wc w.heap.size (fun k_ => some k_ ≠ ((.slice Ao23 t521.length co23) : Value).ownBlock) (.slice Ao30 t531.length co30) t531) ∧ Aside0 (wc.heap[gb524]? = some (.cells #[(.slice Ao20 t515.length co20), (.slice Ao22 t518.length co22), (.slice Ao23 t521.length co23)] 67 (0, 0))) ∧ Aside0 (wc.heap[gb534]? = some (.cells #[(.slice Ao26 t525.length co26), (.slice Ao29 t528.length co29), (.slice Ao30 t531.length co30)] 67 (0, 0))) ∧ Aside0 (Below w.heap.size w wc))
 case first =>
  have H := HC17.out
  clear HC17
  replace H := Option.bind_eq_some_iff.mp H
  obtain ⟨t535, A310, H⟩ := H
  replace H : (if t535 = true then ((dir_Crash.f k1 t525 t528 t531 a2).bind fun bt536 => ((newsreelref10_Entries.f k1 bt536.1 t515).bind fun t545 => (if t545 = true then ((dir_Crash.f k1 t515 t518 t521 (t521.length : Int)).bind fun bt546 => ((newsreelref10_Entries.f k1 bt546.1 t515).bind fun t555 => (if t555 = true then ((dir_Crash.f k1 t515 t518 t521 0).bind fun bt556 => ((newsreelref10_Entries.f k1 bt556.1 t518).bind fun t565 => (newsreellaw10_DirCrash.j1 k1 a2 (!t565) t525 t528 t531))) else (newsreellaw10_DirCrash.j1 k1 a2 true t525 t528 t531)))) else (newsreellaw10_DirCrash.j1 k1 a2 true t525 t528 t531)))) else (newsreellaw10_DirCrash.j1 k1 a2 true t525 t528 t531)) = some r := H
  have A31 := mkA A310
  clear A310
  by_cases c32 : t535 = true
  ·subst c32
   have H1 : ((dir_Crash.f k1 t525 t528 t531 a2).bind fun bt536 => ((newsreelref10_Entries.f k1 bt536.1 t515).bind fun t545 => (if t545 = true then ((dir_Crash.f k1 t515 t518 t521 (t521.length : Int)).bind fun bt546 => ((newsreelref10_Entries.f k1 bt546.1 t515).bind fun t555 => (if t555 = true then ((dir_Crash.f k1 t515 t518 t521 0).bind fun bt556 => ((newsreelref10_Entries.f k1 bt556.1 t518).bind fun t565 => (newsreellaw10_DirCrash.j1 k1 a2 (!t565) t525 t528 t531))) else (newsreellaw10_DirCrash.j1 k1 a2 true t525 t528 t531)))) else (newsreellaw10_DirCrash.j1 k1 a2 true t525 t528 t531)))) = some r := by rw [if_pos rfl] at H; exact H
   clear H
   have H := H1
   clear H1
   replace H := Option.bind_eq_some_iff.mp H
   obtain ⟨⟨t536, t539, t542⟩, A330, H⟩ := H
   replace H : ((newsreelref10_Entries.f k1 t536 t515).bind fun t545 => (if t545 = true then ((dir_Crash.f k1 t515 t518 t521 (t521.length : Int)).bind fun bt546 => ((newsreelref10_Entries.f k1 bt546.1 t515).bind fun t555 => (if t555 = true then ((dir_Crash.f k1 t515 t518 t521 0).bind fun bt556 => ((newsreelref10_Entries.f k1 bt556.1 t518).bind fun t565 => (newsreellaw10_DirCrash.j1 k1 a2 (!t565) t525 t528 t531))) else (newsreellaw10_DirCrash.j1 k1 a2 true t525 t528 t531)))) else (newsreellaw10_DirCrash.j1 k1 a2 true t525 t528 t531))) = some r := H
   have A33 := mkA A330
   clear A330
   replace H := Option.bind_eq_some_iff.mp H
   obtain ⟨t545, A340, H⟩ := H
   replace H : (if t545 = true then ((dir_Crash.f k1 t515 t518 t521 (t521.length : Int)).bind fun bt546 => ((newsreelref10_Entries.f k1 bt546.1 t515).bind fun t555 => (if t555 = true then ((dir_Crash.f k1 t515 t518 t521 0).bind fun bt556 => ((newsreelref10_Entries.f k1 bt556.1 t518).bind fun t565 => (newsreellaw10_DirCrash.j1 k1 a2 (!t565) t525 t528 t531))) else (newsreellaw10_DirCrash.j1 k1 a2 true t525 t528 t531)))) else (newsreellaw10_DirCrash.j1 k1 a2 true t525 t528 t531)) = some r := H
   have A34 := mkA A340
   clear A340
   by_cases c35 : t545 = true
   ·subst c35
    have H1 : ((dir_Crash.f k1 t515 t518 t521 (t521.length : Int)).bind fun bt546 => ((newsreelref10_Entries.f k1 bt546.1 t515).bind fun t555 => (if t555 = true then ((dir_Crash.f k1 t515 t518 t521 0).bind fun bt556 => ((newsreelref10_Entries.f k1 bt556.1 t518).bind fun t565 => (newsreellaw10_DirCrash.j1 k1 a2 (!t565) t525 t528 t531))) else (newsreellaw10_DirCrash.j1 k1 a2 true t525 t528 t531)))) = some r := by rw [if_pos rfl] at H; exact H
    clear H
    have H := H1
    clear H1
    replace H := Option.bind_eq_some_iff.mp H
    obtain ⟨⟨t546, t549, t552⟩, A360, H⟩ := H
    replace H : ((newsreelref10_Entries.f k1 t546 t515).bind fun t555 => (if t555 = true then ((dir_Crash.f k1 t515 t518 t521 0).bind fun bt556 => ((newsreelref10_Entries.f k1 bt556.1 t518).bind fun t565 => (newsreellaw10_DirCrash.j1 k1 a2 (!t565) t525 t528 t531))) else (newsreellaw10_DirCrash.j1 k1 a2 true t525 t528 t531))) = some r := H
    have A36 := mkA A360
    clear A360
    replace H := Option.bind_eq_some_iff.mp H
    obtain ⟨t555, A370, H⟩ := H
    replace H : (if t555 = true then ((dir_Crash.f k1 t515 t518 t521 0).bind fun bt556 => ((newsreelref10_Entries.f k1 bt556.1 t518).bind fun t565 => (newsreellaw10_DirCrash.j1 k1 a2 (!t565) t525 t528 t531))) else (newsreellaw10_DirCrash.j1 k1 a2 true t525 t528 t531)) = some r := H
    have A37 := mkA A370
    clear A370
    by_cases c38 : t555 = true
    ·subst c38
     have H1 : ((dir_Crash.f k1 t515 t518 t521 0).bind fun bt556 => ((newsreelref10_Entries.f k1 bt556.1 t518).bind fun t565 => (newsreellaw10_DirCrash.j1 k1 a2 (!t565) t525 t528 t531))) = some r := by rw [if_pos rfl] at H; exact H
     clear H
     have H := H1
     clear H1
     replace H := Option.bind_eq_some_iff.mp H
     obtain ⟨⟨t556, t559, t562⟩, A390, H⟩ := H
     replace H : ((newsreelref10_Entries.f k1 t556 t518).bind fun t565 => (newsreellaw10_DirCrash.j1 k1 a2 (!t565) t525 t528 t531)) = some r := H
     have A39 := mkA A390
     clear A390
     replace H := Option.bind_eq_some_iff.mp H
     obtain ⟨t565, A400, H⟩ := H
     replace H : (newsreellaw10_DirCrash.j1 k1 a2 (!t565) t525 t528 t531) = some r := H
     have A40 := mkA A400
     clear A400
     as_aux_lemma =>
      have H' := mkA H
      clear H
      try go_wp2
      have n0_ : Aside0 (Kd.V k77 77 (((w25.setCell ⟨gb534, 0, none⟩ (.slice Ao26 t525.length co26)).setCell ⟨gb534, 1, none⟩ (.slice Ao29 t528.length co29)).setCell ⟨gb534, 2, none⟩ (.slice Ao30 t531.length co30)) w.heap.size (fun k_ => some k_ ≠ (.slice Ao23 t521.length co23 : Value).ownBlock ∧ some k_ ≠ (.slice Ao26 t525.length co26 : Value).ownBlock ∧ some k_ ≠ (.slice Ao29 t528.length co29 : Value).ownBlock ∧ some k_ ≠ (.slice Ao30 t531.length co30 : Value).ownBlock ∧ k_ ≠ gb524 ∧ k_ ≠ gb534) (.slice Ao20 t515.length co20) t515) := ⟨by (with_reducible repeat (first | apply Kd.V_alloc | apply Kd.V_drewN | apply Kd.V_drew)); exact Kd.V_mono (Kd.V_far (p := ⟨gb534, 2, none⟩) (Kd.V_far (p := ⟨gb534, 1, none⟩) (Kd.V_far (p := ⟨gb534, 0, none⟩) (Kd.V_mono HO517.out (fun k_ hk => (⟨hk, hk.2⟩ : _ ∧ k_ ≠ gb534))) (fun _ hk => hk.2) (.slice Ao26 t525.length co26)) (fun _ hk => hk.2) (.slice Ao29 t528.length co29)) (fun _ hk => hk.2) (.slice Ao30 t531.length co30)) (fun _ hk => ⟨hk.1.1.1.1.1.1, ⟨hk.1.1.1.1.2, ⟨hk.1.1.1.2, ⟨hk.1.1.2, ⟨hk.1.1.1.1.1.2, hk.1.2⟩⟩⟩⟩⟩)⟩
      have n1_ : Aside0 (Kd.V k77 77 (((w25.setCell ⟨gb534, 0, none⟩ (.slice Ao26 t525.length co26)).setCell ⟨gb534, 1, none⟩ (.slice Ao29 t528.length co29)).setCell ⟨gb534, 2, none⟩ (.slice Ao30 t531.length co30)) w.heap.size (fun k_ => some k_ ≠ (.slice Ao23 t521.length co23 : Value).ownBlock ∧ some k_ ≠ (.slice Ao26 t525.length co26 : Value).ownBlock ∧ some k_ ≠ (.slice Ao29 t528.length co29 : Value).ownBlock ∧ some k_ ≠ (.slice Ao30 t531.length co30 : Value).ownBlock ∧ k_ ≠ gb524 ∧ k_ ≠ gb534) (.slice Ao22 t518.length co22) t518) := ⟨by (with_reducible repeat (first | apply Kd.V_alloc | apply Kd.V_drewN | apply Kd.V_drew)); exact Kd.V_mono (Kd.V_far (p := ⟨gb534, 2, none⟩) (Kd.V_far (p := ⟨gb534, 1, none⟩) (Kd.V_far (p := ⟨gb534, 0, none⟩) (Kd.V_mono HO520.out (fun k_ hk => (⟨hk, hk.2⟩ : _ ∧ k_ ≠ gb534))) (fun _ hk => hk.2) (.slice Ao26 t525.length co26)) (fun _ hk => hk.2) (.slice Ao29 t528.length co29)) (fun _ hk => hk.2) (.slice Ao30 t531.length co30)) (fun _ hk => ⟨hk.1.1.1.1.1.1, ⟨hk.1.1.1.1.2, ⟨hk.1.1.1.2, ⟨hk.1.1.2, ⟨hk.1.1.1.1.1.2, hk.1.2⟩⟩⟩⟩⟩)⟩
      have n2_ : Aside0 (Kd.R k69 69 (((w25.setCell ⟨gb534, 0, none⟩ (.slice Ao26 t525.length co26)).setCell ⟨gb534, 1, none⟩ (.slice Ao29 t528.length co29)).setCell ⟨gb534, 2, none⟩ (.slice Ao30 t531.length co30)) w.heap.size (fun k_ => some k_ ≠ (.slice Ao30 t531.length co30 : Value).ownBlock) (.slice Ao23 t521.length co23) t521) := ⟨by (with_reducible repeat (first | apply Kd.R_alloc | apply Kd.R_drewN | apply Kd.R_drew)); exact Kd.R_mono (Kd.R_far (p := ⟨gb534, 2, none⟩) (Kd.R_far (p := ⟨gb534, 1, none⟩) (Kd.R_far (p := ⟨gb534, 0, none⟩) (Kd.R_types HO523.out BK534.out (by decide)) (fun _ hk => hk.2) (.slice Ao26 t525.length co26)) (fun _ hk => hk.2) (.slice Ao29 t528.length co29)) (fun _ hk => hk.2) (.slice Ao30 t531.length co30)) (fun _ hk => hk.1.2)⟩
      have n3_ : Aside0 (Kd.R k77 77 (((w25.setCell ⟨gb534, 0, none⟩ (.slice Ao26 t525.length co26)).setCell ⟨gb534, 1, none⟩ (.slice Ao29 t528.length co29)).setCell ⟨gb534, 2, none⟩ (.slice Ao30 t531.length co30)) w.heap.size (fun k_ => some k_ ≠ (.slice Ao29 t528.length co29 : Value).ownBlock) (.slice Ao26 t525.length co26) t525) := ⟨by (with_reducible repeat (first | apply Kd.R_alloc | apply Kd.R_drewN | apply Kd.R_drew)); exact Kd.R_mono (Kd.R_far (p := ⟨gb534, 2, none⟩) (Kd.R_far (p := ⟨gb534, 1, none⟩) (Kd.R_far (p := ⟨gb534, 0, none⟩) (Kd.R_types HO527.out BK534.out (by decide)) (fun _ hk => hk.2) (.slice Ao26 t525.length co26)) (fun _ hk => hk.2) (.slice Ao29 t528.length co29)) (fun _ hk => hk.2) (.slice Ao30 t531.length co30)) (fun _ hk => hk.1)⟩
      have n4_ : Aside0 (Kd.R k77 77 (((w25.setCell ⟨gb534, 0, none⟩ (.slice Ao26 t525.length co26)).setCell ⟨gb534, 1, none⟩ (.slice Ao29 t528.length co29)).setCell ⟨gb534, 2, none⟩ (.slice Ao30 t531.length co30)) w.heap.size (fun k_ => some k_ ≠ (.slice Ao26 t525.length co26 : Value).ownBlock) (.slice Ao29 t528.length co29) t528) := ⟨by (with_reducible repeat (first | apply Kd.R_alloc | apply Kd.R_drewN | apply Kd.R_drew)); exact Kd.R_mono (Kd.R_far (p := ⟨gb534, 2, none⟩) (Kd.R_far (p := ⟨gb534, 1, none⟩) (Kd.R_far (p := ⟨gb534, 0, none⟩) (Kd.R_types HO530.out BK534.out (by decide)) (fun _ hk => hk.2) (.slice Ao26 t525.length co26)) (fun _ hk => hk.2) (.slice Ao29 t528.length co29)) (fun _ hk => hk.2) (.slice Ao30 t531.length co30)) (fun _ hk => hk.1)⟩
      have n5_ : Aside0 (Kd.R k69 69 (((w25.setCell ⟨gb534, 0, none⟩ (.slice Ao26 t525.length co26)).setCell ⟨gb534, 1, none⟩ (.slice Ao29 t528.length co29)).setCell ⟨gb534, 2, none⟩ (.slice Ao30 t531.length co30)) w.heap.size (fun k_ => some k_ ≠ (.slice Ao23 t521.length co23 : Value).ownBlock) (.slice Ao30 t531.length co30) t531) := ⟨by (with_reducible repeat (first | apply Kd.R_alloc | apply Kd.R_drewN | apply Kd.R_drew)); exact Kd.R_mono (Kd.R_far (p := ⟨gb534, 2, none⟩) (Kd.R_far (p := ⟨gb534, 1, none⟩) (Kd.R_far (p := ⟨gb534, 0, none⟩) (Kd.R_types HO533.out BK534.out (by decide)) (fun _ hk => hk.2) (.slice Ao26 t525.length co26)) (fun _ hk => hk.2) (.slice Ao29 t528.length co29)) (fun _ hk => hk.2) (.slice Ao30 t531.length co30)) (fun _ hk => hk.1.2)⟩
      have n6_ : Aside0 ((((w25.setCell ⟨gb534, 0, none⟩ (.slice Ao26 t525.length co26)).setCell ⟨gb534, 1, none⟩ (.slice Ao29 t528.length co29)).setCell ⟨gb534, 2, none⟩ (.slice Ao30 t531.length co30)).heap[gb524]? = some (.cells #[.slice Ao20 t515.length co20, .slice Ao22 t518.length co22, .slice Ao23 t521.length co23] 67 (0, 0))) := ⟨by (iterate 3 ((with_reducible repeat (first | refine blk_drewN ?_ _ | refine blk_drew ?_ | refine blk_alloc ?_ _)); refine blk_far ?_ NB524_534.out _)); (with_reducible repeat (first | refine blk_drewN ?_ _ | refine blk_drew ?_ | refine blk_alloc ?_ _)); exact BK524.out⟩
      have n7_ : Aside0 ((((w25.setCell ⟨gb534, 0, none⟩ (.slice Ao26 t525.length co26)).setCell ⟨gb534, 1, none⟩ (.slice Ao29 t528.length co29)).setCell ⟨gb534, 2, none⟩ (.slice Ao30 t531.length co30)).heap[gb534]? = some (.cells #[.slice Ao26 t525.length co26, .slice Ao29 t528.length co29, .slice Ao30 t531.length co30] 67 (0, 0))) := ⟨by (with_reducible repeat (first | refine blk_drewN ?_ _ | refine blk_drew ?_ | refine blk_alloc ?_ _)); refine blk_put (cs := #[.slice Ao26 t525.length co26, .slice Ao29 t528.length co29, .slice none 0 0]) ?_ 2 _ rfl; (with_reducible repeat (first | refine blk_drewN ?_ _ | refine blk_drew ?_ | refine blk_alloc ?_ _)); refine blk_put (cs := #[.slice Ao26 t525.length co26, .slice none 0 0, .slice none 0 0]) ?_ 1 _ rfl; (with_reducible repeat (first | refine blk_drewN ?_ _ | refine blk_drew ?_ | refine blk_alloc ?_ _)); refine blk_put (cs := #[.slice none 0 0, .slice none 0 0, .slice none 0 0]) ?_ 0 _ rfl; (with_reducible repeat (first | refine blk_drewN ?_ _ | refine blk_drew ?_ | refine blk_alloc ?_ _)); exact BK534.out⟩
      have n8_ : Aside0 (Below w.heap.size w (((w25.setCell ⟨gb534, 0, none⟩ (.slice Ao26 t525.length co26)).setCell ⟨gb534, 1, none⟩ (.slice Ao29 t528.length co29)).setCell ⟨gb534, 2, none⟩ (.slice Ao30 t531.length co30))) := ⟨by repeat (first | (with_reducible first | exact HB.out | apply below_alloc | apply pw_below_drewN | apply below_drew1 | refine below_set ?_ GE524.out | refine below_set ?_ GE534.out) | exact HB.out)⟩
      (try clear HO517)
      (try clear HO520)
      (try clear HO523)
      (try clear HO527)
      (try clear HO530)
      (try clear HO533)
      (try clear BK524)
      (try clear BK534)
      (try clear HB)
      generalize (((w25.setCell ⟨gb534, 0, none⟩ (.slice Ao26 t525.length co26)).setCell ⟨gb534, 1, none⟩ (.slice Ao29 t528.length co29)).setCell ⟨gb534, 2, none⟩ (.slice Ao30 t531.length co30)) = w41 at n0_ n1_ n2_ n3_ n4_ n5_ n6_ n7_ n8_ ⊢
      have HO517 := n0_
      have HO520 := n1_
      have HO523 := n2_
      have HO527 := n3_
      have HO530 := n4_
      have HO533 := n5_
      have BK524 := n6_
      have BK534 := n7_
      have HB := n8_
      clear n0_ n1_ n2_ n3_ n4_ n5_ n6_ n7_ n8_
      have n0_ := mkA (Kd.V_drew HO517.out)
      have n1_ := mkA (Kd.V_drew HO520.out)
      have n2_ := mkA (Kd.R_drew HO523.out)
      have n3_ := mkA (Kd.R_drew HO527.out)
      have n4_ := mkA (Kd.R_drew HO530.out)
      have n5_ := mkA (Kd.R_drew HO533.out)
      have n6_ := mkA (blk_drew BK524.out)
      have n7_ := mkA (blk_drew BK534.out)
      have n8_ := mkA (below_drew1 HB.out)
      clear HO517 HO520 HO523 HO527 HO530 HO533 BK524 BK534 HB
      have HO517 := n0_
      have HO520 := n1_
      have HO523 := n2_
      have HO527 := n3_
      have HO530 := n4_
      have HO533 := n5_
      have BK524 := n6_
      have BK534 := n7_
      have HB := n8_
      clear n0_ n1_ n2_ n3_ n4_ n5_ n6_ n7_ n8_
      refine start_ (n := 34) (S := fun w' => w'.cell? ⟨gb524, 0, none⟩ = some (.slice Ao20 t515.length co20) ∧ w'.cell? ⟨gb524, 1, none⟩ = some (.slice Ao22 t518.length co22) ∧ w'.cell? ⟨gb524, 2, none⟩ = some (.slice Ao23 t521.length co23) ∧ w'.cell? ⟨gb534, 0, none⟩ = some (.slice Ao26 t525.length co26) ∧ w'.cell? ⟨gb534, 1, none⟩ = some (.slice Ao29 t528.length co29) ∧ w'.cell? ⟨gb534, 2, none⟩ = some (.slice Ao30 t531.length co30)) (ds := []) #[false, false, false, false, false, false, false, false, false, false, false, false, false, false, false, false, false, false, false, false, false, false, false, false, false, false, false, false, false, false, false, false, false, false] (by kernel_rfl) rfl rfl ⟨(blk_cell BK524.out 0).trans rfl, (blk_cell BK524.out 1).trans rfl, (blk_cell BK524.out 2).trans rfl, (blk_cell BK534.out 0).trans rfl, (blk_cell BK534.out 1).trans rfl, (blk_cell BK534.out 2).trans rfl⟩ (fun hHeld => ?_); refine with_tabW newsreellaw10_DirCrash.tab10 newsreellaw10_DirCrash.bits10 (fun HT_ HW_ => ?_)
      generalize w41.drew = w42 at HO517 HO520 HO523 HO527 HO530 HO533 BK524 BK534 HB hHeld ⊢
      refine take_ (i := 0) (N := some 50) (v := ?_) (a' := ?_) #[true, false, false, false, false, false, false, false, false, false, false, false, false, false, false, false, false, false, false, false, false, false, false, false, false, false, false, false, false, false, false, false, false, false] rfl rfl (take_ofW HT_.out HW_.out (by kernel_rfl)) (fun _ _ _ h => h) (Or.inl ⟨by rfl, ?_⟩) hHeld ?_ ?_
      rotate_left
      ·rintro w' ⟨s0, s1, s2, s3, s4, s5⟩
       go_simp
       with_reducible rfl
      rotate_left
      ·simp only [Act.put, sA, s0, sS, i64_w, i32_w]
       rfl
      refine one_ (i := 1) (N := some 51) #[true, true, false, false, false, false, false, false, false, false, false, false, false, false, false, false, false, false, false, false, false, false, false, false, false, false, false, false, false, false, false, false, false, false] rfl rfl (one_of HT_.out (by kernel_rfl)) (by decide) (fun K hK => ?_)
      refine goes_ Try.func48 (by kernel_rfl) rfl #[.agg #[.slice Ao20 t515.length co20, .slice Ao22 t518.length co22, .slice Ao23 t521.length co23]] (by rfl) rfl rfl ca ?_
      with_reducible refine (dir_Right.calls k1 _ _ t515 _ _ t518 _ _ t521 true _ ?side1 ?side2 ?side3 ?side4 ?side5 ?side6 A31.out).mono ?_
      (case side1 => exact Kd.C_y (Kd.V_reads' HO517.out).2.2)
      (case side2 => exact (Kd.V_reads' HO517.out).2.1)
      (case side3 => exact Kd.C_y (Kd.V_reads' HO520.out).2.2)
      (case side4 => exact (Kd.V_reads' HO520.out).2.1)
      (case side5 => exact Kd.C_y (Kd.R_reads' HO523.out).2.2)
      (case side6 => exact (Kd.R_reads' HO523.out).2.1)
      rintro e w43 ⟨rfl, hb⟩
      have hbk_w43 := mkA hb
      refine ⟨_, rfl, ?_⟩
      have n0_ := mkA (Kd.V_below (Kd.V_y HO517.out) hb)
      have n1_ := mkA (Kd.V_below (Kd.V_y HO520.out) hb)
      have n2_ := mkA (Kd.R_below (Kd.R_y HO523.out) hb)
      have n3_ := mkA (Kd.R_below (Kd.R_y HO527.out) hb)
      have n4_ := mkA (Kd.R_below (Kd.R_y HO530.out) hb)
      have n5_ := mkA (Kd.R_below (Kd.R_y HO533.out) hb)
      have n6_ := mkA (blk_below (blk_y BK524.out) hb)
      have n7_ := mkA (blk_below (blk_y BK534.out) hb)
      have n8_ := mkA (below_step (below_y HB.out) hb)
      clear HO517 HO520 HO523 HO527 HO530 HO533 BK524 BK534 HB
      have HO517 := n0_
      have HO520 := n1_
      have HO523 := n2_
      have HO527 := n3_
      have HO530 := n4_
      have HO533 := n5_
      have BK524 := n6_
      have BK534 := n7_
      have HB := n8_
      clear n0_ n1_ n2_ n3_ n4_ n5_ n6_ n7_ n8_
      (try clear hb)
      (try clear hb2)
      (try clear hk)
      (try clear hi)
      refine hK.out _ _ ⟨(blk_cell BK524.out 0).trans rfl, (blk_cell BK524.out 1).trans rfl, (blk_cell BK524.out 2).trans rfl, (blk_cell BK534.out 0).trans rfl, (blk_cell BK534.out 1).trans rfl, (blk_cell BK534.out 2).trans rfl⟩ (fun hHeld => ?_)
      clear hK K
      refine norm_ (a' := ?_) ?_ ?_
      rotate_left
      ·show Act.put _ (some 51) _ = _
       simp only [Act.put, sA, s0, sS, i64_w, i32_w]
       rfl
      refine pure_ (i := 2) (N := some 52) (v := ?_) (a' := ?_) #[true, true, true, false, false, false, false, false, false, false, false, false, false, false, false, false, false, false, false, false, false, false, false, false, false, false, false, false, false, false, false, false, false, false] rfl rfl (any_of HT_.out (by kernel_rfl)) (fun _ _ _ h => h) (Or.inl ⟨by rfl, ?_⟩) ?_ ?_
      rotate_left
      ·intro w'
       go_simp
       with_reducible rfl
      rotate_left
      ·simp only [Act.put, sA, s0, sS, i64_w, i32_w]
       rfl
      refine pure_ (i := 3) (N := some 53) (v := ?_) (a' := ?_) #[true, true, true, true, false, false, false, false, false, false, false, false, false, false, false, false, false, false, false, false, false, false, false, false, false, false, false, false, false, false, false, false, false, false] rfl rfl (any_of HT_.out (by kernel_rfl)) (fun _ _ _ h => h) (Or.inl ⟨by rfl, ?_⟩) ?_ ?_
      rotate_left
      ·intro w'
       go_simp
       with_reducible rfl
      rotate_left
      ·simp only [Act.put, sA, s0, sS, i64_w, i32_w]
       rfl
      refine pure_ (i := 5) (N := some 55) (v := ?_) (a' := ?_) #[true, true, true, true, false, true, false, false, false, false, false, false, false, false, false, false, false, false, false, false, false, false, false, false, false, false, false, false, false, false, false, false, false, false] rfl rfl (any_of HT_.out (by kernel_rfl)) (fun _ _ _ h => h) (Or.inl ⟨by rfl, ?_⟩) ?_ ?_
      rotate_left
      ·intro w'
       go_simp
       with_reducible rfl
      rotate_left
      ·simp only [Act.put, sA, s0, sS, i64_w, i32_w]
       rfl
      refine pure_ (i := 8) (N := some 58) (v := ?_) (a' := ?_) #[true, true, true, true, false, true, false, false, true, false, false, false, false, false, false, false, false, false, false, false, false, false, false, false, false, false, false, false, false, false, false, false, false, false] rfl rfl (any_of HT_.out (by kernel_rfl)) (fun _ _ _ h => h) (Or.inl ⟨by rfl, ?_⟩) ?_ ?_
      rotate_left
      ·intro w'
       go_simp
       with_reducible rfl
      rotate_left
      ·simp only [Act.put, sA, s0, sS, i64_w, i32_w]
       rfl
      refine take_ (i := 4) (N := some 54) (v := ?_) (a' := ?_) #[true, true, true, true, true, true, false, false, true, false, false, false, false, false, false, false, false, false, false, false, false, false, false, false, false, false, false, false, false, false, false, false, false, false] rfl rfl (take_ofW HT_.out HW_.out (by kernel_rfl)) (fun _ _ _ h => h) (Or.inl ⟨by rfl, ?_⟩) hHeld ?_ ?_
      rotate_left
      ·rintro w' ⟨s0, s1, s2, s3, s4, s5⟩
       go_simp
       with_reducible rfl
      rotate_left
      ·simp only [Act.put, sA, s0, sS, i64_w, i32_w]
       rfl
      refine take_ (i := 9) (N := some 59) (v := ?_) (a' := ?_) #[true, true, true, true, true, true, false, false, true, true, false, false, false, false, false, false, false, false, false, false, false, false, false, false, false, false, false, false, false, false, false, false, false, false] rfl rfl (take_ofW HT_.out HW_.out (by kernel_rfl)) (fun _ _ _ h => h) (Or.inl ⟨by rfl, ?_⟩) hHeld ?_ ?_
      rotate_left
      ·rintro w' ⟨s0, s1, s2, s3, s4, s5⟩
       go_simp
       with_reducible rfl
      rotate_left
      ·simp only [Act.put, sA, s0, sS, i64_w, i32_w]
       rfl
      refine one_ (i := 6) (N := some 56) #[true, true, true, true, true, true, true, false, true, true, false, false, false, false, false, false, false, false, false, false, false, false, false, false, false, false, false, false, false, false, false, false, false, false] rfl rfl (one_of HT_.out (by kernel_rfl)) (by decide) (fun K hK => ?_)
      refine goes_ Try.func53 (by kernel_rfl) rfl #[.agg #[.slice Ao26 t525.length co26, .slice Ao29 t528.length co29, .slice Ao30 t531.length co30], .int .i64 a2] (by rfl) rfl rfl ca ?_
      with_reducible refine (dir_Crash.calls k1 _ _ t525 _ _ t528 _ _ t531 a2 t536 t539 t542 _ ?side1 ?side2 ?side3 ?side4 ?side5 ?side6 A33.out).mono ?_
      (case side1 => exact Kd.C_y (Kd.R_reads' HO527.out).2.2)
      (case side2 => exact (Kd.R_reads' HO527.out).2.1)
      (case side3 => exact Kd.C_y (Kd.R_reads' HO530.out).2.2)
      (case side4 => exact (Kd.R_reads' HO530.out).2.1)
      (case side5 => exact Kd.C_y (Kd.R_reads' HO533.out).2.2)
      (case side6 => exact (Kd.R_reads' HO533.out).2.1)
      rintro e w44 ⟨v537, v540, v543, rfl, ho0, ho1, ho2, hb⟩
      refine ⟨_, rfl, ?_⟩
      have n0_ := mkA (Kd.V_mono (Kd.V_told (Kd.V_told (Kd.V_told (Kd.V_old (Kd.V_y HO517.out) hb) (Kd.R_base ho0)) (Kd.R_base ho1)) (Kd.R_base ho2)) (fun _ h_ => h_.1))
      have n1_ := mkA (Kd.V_mono (Kd.V_told (Kd.V_told (Kd.V_told (Kd.V_old (Kd.V_y HO520.out) hb) (Kd.R_base ho0)) (Kd.R_base ho1)) (Kd.R_base ho2)) (fun _ h_ => h_.1))
      have n2_ := mkA (Kd.R_elder' (Kd.R_y HO523.out) (Kd.R_base ho2) hb)
      have n3_ := mkA (Kd.R_mono (Kd.R_told (Kd.R_told (Kd.R_old (Kd.R_y HO527.out) hb) (Kd.R_base ho0)) (Kd.R_base ho1)) (fun _ h_ => h_.1))
      have n4_ := mkA (Kd.R_mono (Kd.R_told (Kd.R_told (Kd.R_old (Kd.R_y HO530.out) hb) (Kd.R_base ho0)) (Kd.R_base ho1)) (fun _ h_ => h_.1))
      have n5_ := mkA (Kd.R_elder' (Kd.R_y HO533.out) (Kd.R_base ho2) hb)
      have n6_ := mkA (Kd.R_lower (Kd.R_new' (Kd.R_new' ho0 (Kd.R_lt (Kd.R_y HO527.out))) (Kd.R_lt (Kd.R_y HO530.out))) (below_size (below_y HB.out)))
      have n7_ := mkA (Kd.R_lower (Kd.R_new' (Kd.R_new' ho1 (Kd.R_lt (Kd.R_y HO527.out))) (Kd.R_lt (Kd.R_y HO530.out))) (below_size (below_y HB.out)))
      have n8_ := mkA (Kd.R_lower (Kd.R_new' (Kd.R_new' ho2 (Kd.R_lt (Kd.R_y HO523.out))) (Kd.R_lt (Kd.R_y HO533.out))) (below_size (below_y HB.out)))
      have n9_ := mkA (blk_below (blk_y BK524.out) hb)
      have n10_ := mkA (blk_below (blk_y BK534.out) hb)
      have n11_ := mkA (below_step (below_y HB.out) hb)
      clear HO517 HO520 HO523 HO527 HO530 HO533 BK524 BK534 HB
      have HO517 := n0_
      have HO520 := n1_
      have HO523 := n2_
      have HO527 := n3_
      have HO530 := n4_
      have HO533 := n5_
      have HO538 := n6_
      have HO541 := n7_
      have HO544 := n8_
      have BK524 := n9_
      have BK534 := n10_
      have HB := n11_
      clear n0_ n1_ n2_ n3_ n4_ n5_ n6_ n7_ n8_ n9_ n10_ n11_
      (try clear hb)
      (try clear hb2)
      (try clear hk)
      (try clear hi)
      (try clear ho0)
      (try clear ho1)
      (try clear ho2)
      obtain ⟨Ao45, co45, eo45⟩ := Kd.R_slice HO538.out
      (first | subst eo45 | (injection eo45 with f1_ f2_ f3_; have f4_ := f1_.symm; have f5_ := f3_.symm; clear f1_ f2_ f3_; subst f4_; subst f5_))
      refine hK.out _ _ ⟨(blk_cell BK524.out 0).trans rfl, (blk_cell BK524.out 1).trans rfl, (blk_cell BK524.out 2).trans rfl, (blk_cell BK534.out 0).trans rfl, (blk_cell BK534.out 1).trans rfl, (blk_cell BK534.out 2).trans rfl⟩ (fun hHeld => ?_)
      clear hK K
      refine norm_ (a' := ?_) ?_ ?_
      rotate_left
      ·show Act.put _ (some 56) _ = _
       simp only [Act.put, sA, s0, sS, i64_w, i32_w]
       rfl
      refine pure_ (i := 7) (N := some 57) (v := ?_) (a' := ?_) #[true, true, true, true, true, true, true, true, true, true, false, false, false, false, false, false, false, false, false, false, false, false, false, false, false, false, false, false, false, false, false, false, false, false] rfl rfl (any_of HT_.out (by kernel_rfl)) (fun _ _ _ h => h) (Or.inl ⟨by rfl, ?_⟩) ?_ ?_
      rotate_left
      ·intro w'
       go_simp
       with_reducible rfl
      rotate_left
      ·simp only [Act.put, sA, s0, sS, i64_w, i32_w]
       rfl
      refine one_ (i := 10) (N := some 60) #[true, true, true, true, true, true, true, true, true, true, true, false, false, false, false, false, false, false, false, false, false, false, false, false, false, false, false, false, false, false, false, false, false, false] rfl rfl (one_of HT_.out (by kernel_rfl)) (by decide) (fun K hK => ?_)
      refine goes_ Try.func56 (by kernel_rfl) rfl #[.slice Ao45 t536.length co45, .slice Ao20 t515.length co20] (by rfl) rfl rfl ca ?_
      with_reducible refine (newsreelref10_Entries.calls k1 _ _ t536 _ _ t515 true _ ?side1 ?side2 ?side3 ?side4 A34.out).mono ?_
      (case side1 => exact Kd.C_y (Kd.R_reads' HO538.out).2.2)
      (case side2 => exact (Kd.R_reads' HO538.out).2.1)
      (case side3 => exact Kd.C_y (Kd.V_reads' HO517.out).2.2)
      (case side4 => exact (Kd.V_reads' HO517.out).2.1)
      rintro e w' ⟨rfl, ⟨nd, rfl⟩⟩
      refine ⟨_, rfl, ?_⟩
      refine hK.out _ _ ⟨(blk_cell BK524.out 0).trans rfl, (blk_cell BK524.out 1).trans rfl, (blk_cell BK524.out 2).trans rfl, (blk_cell BK534.out 0).trans rfl, (blk_cell BK534.out 1).trans rfl, (blk_cell BK534.out 2).trans rfl⟩ (fun hHeld => ?_)
      clear hK K
      refine norm_ (a' := ?_) ?_ ?_
      rotate_left
      ·show Act.put _ (some 60) _ = _
       simp only [Act.put, sA, s0, sS, i64_w, i32_w]
       rfl
      refine pure_ (i := 11) (N := some 61) (v := ?_) (a' := ?_) #[true, true, true, true, true, true, true, true, true, true, true, true, false, false, false, false, false, false, false, false, false, false, false, false, false, false, false, false, false, false, false, false, false, false] rfl rfl (any_of HT_.out (by kernel_rfl)) (fun _ _ _ h => h) (Or.inl ⟨by rfl, ?_⟩) ?_ ?_
      rotate_left
      ·intro w'
       go_simp
       with_reducible rfl
      rotate_left
      ·simp only [Act.put, sA, s0, sS, i64_w, i32_w]
       rfl
      refine pure_ (i := 12) (N := some 62) (v := ?_) (a' := ?_) #[true, true, true, true, true, true, true, true, true, true, true, true, true, false, false, false, false, false, false, false, false, false, false, false, false, false, false, false, false, false, false, false, false, false] rfl rfl (any_of HT_.out (by kernel_rfl)) (fun _ _ _ h => h) (Or.inl ⟨by rfl, ?_⟩) ?_ ?_
      rotate_left
      ·intro w'
       go_simp
       with_reducible rfl
      rotate_left
      ·simp only [Act.put, sA, s0, sS, i64_w, i32_w]
       rfl
      refine pure_ (i := 13) (N := some 63) (v := ?_) (a' := ?_) #[true, true, true, true, true, true, true, true, true, true, true, true, true, true, false, false, false, false, false, false, false, false, false, false, false, false, false, false, false, false, false, false, false, false] rfl rfl (any_of HT_.out (by kernel_rfl)) (fun _ _ _ h => h) (Or.inl ⟨by rfl, ?_⟩) ?_ ?_
      rotate_left
      ·intro w'
       go_simp
       with_reducible rfl
      rotate_left
      ·simp only [Act.put, sA, s0, sS, i64_w, i32_w]
       rfl
      refine pure_ (i := 15) (N := some 65) (v := ?_) (a' := ?_) #[true, true, true, true, true, true, true, true, true, true, true, true, true, true, false, true, false, false, false, false, false, false, false, false, false, false, false, false, false, false, false, false, false, false] rfl rfl (any_of HT_.out (by kernel_rfl)) (fun _ _ _ h => h) (Or.inl ⟨by rfl, ?_⟩) ?_ ?_
      rotate_left
      ·intro w'
       go_simp
       with_reducible rfl
      rotate_left
      ·simp only [Act.put, sA, s0, sS, i64_w, i32_w]
       rfl
      refine pure_ (i := 20) (N := some 70) (v := ?_) (a' := ?_) #[true, true, true, true, true, true, true, true, true, true, true, true, true, true, false, true, false, false, false, false, true, false, false, false, false, false, false, false, false, false, false, false, false, false] rfl rfl (any_of HT_.out (by kernel_rfl)) (fun _ _ _ h => h) (Or.inl ⟨by rfl, ?_⟩) ?_ ?_
      rotate_left
      ·intro w'
       go_simp
       with_reducible rfl
      rotate_left
      ·simp only [Act.put, sA, s0, sS, i64_w, i32_w]
       rfl
      refine take_ (i := 14) (N := some 64) (v := ?_) (a' := ?_) #[true, true, true, true, true, true, true, true, true, true, true, true, true, true, true, true, false, false, false, false, true, false, false, false, false, false, false, false, false, false, false, false, false, false] rfl rfl (take_ofW HT_.out HW_.out (by kernel_rfl)) (fun _ _ _ h => h) (Or.inl ⟨by rfl, ?_⟩) hHeld ?_ ?_
      rotate_left
      ·rintro w' ⟨s0, s1, s2, s3, s4, s5⟩
       go_simp
       with_reducible rfl
      rotate_left
      ·simp only [Act.put, sA, s0, sS, i64_w, i32_w]
       rfl
      refine take_ (i := 16) (N := some 66) (v := ?_) (a' := ?_) #[true, true, true, true, true, true, true, true, true, true, true, true, true, true, true, true, true, false, false, false, true, false, false, false, false, false, false, false, false, false, false, false, false, false] rfl rfl (take_ofW HT_.out HW_.out (by kernel_rfl)) (fun _ _ _ h => h) (Or.inl ⟨by rfl, ?_⟩) hHeld ?_ ?_
      rotate_left
      ·rintro w' ⟨s0, s1, s2, s3, s4, s5⟩
       go_simp
       with_reducible rfl
      rotate_left
      ·simp only [Act.put, sA, s0, sS, i64_w, i32_w]
       rfl
      refine pure_ (i := 17) (N := some 67) (v := ?_) (a' := ?_) #[true, true, true, true, true, true, true, true, true, true, true, true, true, true, true, true, true, true, false, false, true, false, false, false, false, false, false, false, false, false, false, false, false, false] rfl rfl (any_of HT_.out (by kernel_rfl)) (fun _ _ _ h => h) (Or.inl ⟨by rfl, ?_⟩) ?_ ?_
      rotate_left
      ·intro w'
       go_simp
       with_reducible rfl
      rotate_left
      ·simp only [Act.put, sA, s0, sS, i64_w, i32_w]
       rfl
      refine take_ (i := 21) (N := some 71) (v := ?_) (a' := ?_) #[true, true, true, true, true, true, true, true, true, true, true, true, true, true, true, true, true, true, false, false, true, true, false, false, false, false, false, false, false, false, false, false, false, false] rfl rfl (take_ofW HT_.out HW_.out (by kernel_rfl)) (fun _ _ _ h => h) (Or.inl ⟨by rfl, ?_⟩) hHeld ?_ ?_
      rotate_left
      ·rintro w' ⟨s0, s1, s2, s3, s4, s5⟩
       go_simp
       with_reducible rfl
      rotate_left
      ·simp only [Act.put, sA, s0, sS, i64_w, i32_w]
       rfl
      refine one_ (i := 18) (N := some 68) #[true, true, true, true, true, true, true, true, true, true, true, true, true, true, true, true, true, true, true, false, true, true, false, false, false, false, false, false, false, false, false, false, false, false] rfl rfl (one_of HT_.out (by kernel_rfl)) (by decide) (fun K hK => ?_)
      refine goes_ Try.func53 (by kernel_rfl) rfl #[.agg #[.slice Ao20 t515.length co20, .slice Ao22 t518.length co22, .slice Ao23 t521.length co23], .int .i64 (t521.length : Int)] (by rfl) rfl rfl ca ?_
      with_reducible refine (dir_Crash.calls k1 _ _ t515 _ _ t518 _ _ t521 (t521.length : Int) t546 t549 t552 _ ?side1 ?side2 ?side3 ?side4 ?side5 ?side6 A36.out).mono ?_
      (case side1 => exact Kd.C_y (Kd.V_reads' HO517.out).2.2)
      (case side2 => exact (Kd.V_reads' HO517.out).2.1)
      (case side3 => exact Kd.C_y (Kd.V_reads' HO520.out).2.2)
      (case side4 => exact (Kd.V_reads' HO520.out).2.1)
      (case side5 => exact Kd.C_y (Kd.R_reads' HO523.out).2.2)
      (case side6 => exact (Kd.R_reads' HO523.out).2.1)
      rintro e w46 ⟨v547, v550, v553, rfl, ho0, ho1, ho2, hb⟩
      refine ⟨_, rfl, ?_⟩
      have n0_ := mkA (Kd.V_mono (Kd.V_told (Kd.V_told (Kd.V_told (Kd.V_old (Kd.V_y HO517.out) hb) (Kd.R_base ho0)) (Kd.R_base ho1)) (Kd.R_base ho2)) (fun _ h_ => h_.1))
      have n1_ := mkA (Kd.V_mono (Kd.V_told (Kd.V_told (Kd.V_told (Kd.V_old (Kd.V_y HO520.out) hb) (Kd.R_base ho0)) (Kd.R_base ho1)) (Kd.R_base ho2)) (fun _ h_ => h_.1))
      have n2_ := mkA (Kd.R_elder' (Kd.R_y HO523.out) (Kd.R_base ho2) hb)
      have n3_ := mkA (Kd.R_mono (Kd.R_told (Kd.R_told (Kd.R_old (Kd.R_y HO527.out) hb) (Kd.R_base ho0)) (Kd.R_base ho1)) (fun _ h_ => h_.1))
      have n4_ := mkA (Kd.R_mono (Kd.R_told (Kd.R_told (Kd.R_old (Kd.R_y HO530.out) hb) (Kd.R_base ho0)) (Kd.R_base ho1)) (fun _ h_ => h_.1))
      have n5_ := mkA (Kd.R_elder' (Kd.R_y HO533.out) (Kd.R_base ho2) hb)
      have n6_ := mkA (Kd.R_mono (Kd.R_told (Kd.R_told (Kd.R_old (Kd.R_y HO538.out) hb) (Kd.R_base ho0)) (Kd.R_base ho1)) (fun _ h_ => h_.1))
      have n7_ := mkA (Kd.R_mono (Kd.R_told (Kd.R_told (Kd.R_old (Kd.R_y HO541.out) hb) (Kd.R_base ho0)) (Kd.R_base ho1)) (fun _ h_ => h_.1))
      have n8_ := mkA (Kd.R_elder' (Kd.R_y HO544.out) (Kd.R_base ho2) hb)
      have n9_ := mkA (Kd.R_lower (Kd.R_new' (Kd.R_new' (Kd.R_new' (Kd.R_new' ho0 (Kd.R_lt (Kd.R_y HO527.out))) (Kd.R_lt (Kd.R_y HO530.out))) (Kd.R_lt (Kd.R_y HO538.out))) (Kd.R_lt (Kd.R_y HO541.out))) (below_size (below_y HB.out)))
      have n10_ := mkA (Kd.R_lower (Kd.R_new' (Kd.R_new' (Kd.R_new' (Kd.R_new' ho1 (Kd.R_lt (Kd.R_y HO527.out))) (Kd.R_lt (Kd.R_y HO530.out))) (Kd.R_lt (Kd.R_y HO538.out))) (Kd.R_lt (Kd.R_y HO541.out))) (below_size (below_y HB.out)))
      have n11_ := mkA (Kd.R_lower (Kd.R_new' (Kd.R_new' (Kd.R_new' ho2 (Kd.R_lt (Kd.R_y HO523.out))) (Kd.R_lt (Kd.R_y HO533.out))) (Kd.R_lt (Kd.R_y HO544.out))) (below_size (below_y HB.out)))
      have n12_ := mkA (blk_below (blk_y BK524.out) hb)
      have n13_ := mkA (blk_below (blk_y BK534.out) hb)
      have n14_ := mkA (below_step (below_y HB.out) hb)
      clear HO517 HO520 HO523 HO527 HO530 HO533 HO538 HO541 HO544 BK524 BK534 HB
      have HO517 := n0_
      have HO520 := n1_
      have HO523 := n2_
      have HO527 := n3_
      have HO530 := n4_
      have HO533 := n5_
      have HO538 := n6_
      have HO541 := n7_
      have HO544 := n8_
      have HO548 := n9_
      have HO551 := n10_
      have HO554 := n11_
      have BK524 := n12_
      have BK534 := n13_
      have HB := n14_
      clear n0_ n1_ n2_ n3_ n4_ n5_ n6_ n7_ n8_ n9_ n10_ n11_ n12_ n13_ n14_
      (try clear hb)
      (try clear hb2)
      (try clear hk)
      (try clear hi)
      (try clear ho0)
      (try clear ho1)
      (try clear ho2)
      obtain ⟨Ao47, co47, eo47⟩ := Kd.R_slice HO548.out
      (first | subst eo47 | (injection eo47 with f1_ f2_ f3_; have f4_ := f1_.symm; have f5_ := f3_.symm; clear f1_ f2_ f3_; subst f4_; subst f5_))
      refine hK.out _ _ ⟨(blk_cell BK524.out 0).trans rfl, (blk_cell BK524.out 1).trans rfl, (blk_cell BK524.out 2).trans rfl, (blk_cell BK534.out 0).trans rfl, (blk_cell BK534.out 1).trans rfl, (blk_cell BK534.out 2).trans rfl⟩ (fun hHeld => ?_)
      clear hK K
      refine norm_ (a' := ?_) ?_ ?_
      rotate_left
      ·show Act.put _ (some 68) _ = _
       simp only [Act.put, sA, s0, sS, i64_w, i32_w]
       rfl
      refine pure_ (i := 19) (N := some 69) (v := ?_) (a' := ?_) #[true, true, true, true, true, true, true, true, true, true, true, true, true, true, true, true, true, true, true, true, true, true, false, false, false, false, false, false, false, false, false, false, false, false] rfl rfl (any_of HT_.out (by kernel_rfl)) (fun _ _ _ h => h) (Or.inl ⟨by rfl, ?_⟩) ?_ ?_
      rotate_left
      ·intro w'
       go_simp
       with_reducible rfl
      rotate_left
      ·simp only [Act.put, sA, s0, sS, i64_w, i32_w]
       rfl
      refine one_ (i := 22) (N := some 72) #[true, true, true, true, true, true, true, true, true, true, true, true, true, true, true, true, true, true, true, true, true, true, true, false, false, false, false, false, false, false, false, false, false, false] rfl rfl (one_of HT_.out (by kernel_rfl)) (by decide) (fun K hK => ?_)
      refine goes_ Try.func56 (by kernel_rfl) rfl #[.slice Ao47 t546.length co47, .slice Ao20 t515.length co20] (by rfl) rfl rfl ca ?_
      with_reducible refine (newsreelref10_Entries.calls k1 _ _ t546 _ _ t515 true _ ?side1 ?side2 ?side3 ?side4 A37.out).mono ?_
      (case side1 => exact Kd.C_y (Kd.R_reads' HO548.out).2.2)
      (case side2 => exact (Kd.R_reads' HO548.out).2.1)
      (case side3 => exact Kd.C_y (Kd.V_reads' HO517.out).2.2)
      (case side4 => exact (Kd.V_reads' HO517.out).2.1)
      rintro e w' ⟨rfl, ⟨nd, rfl⟩⟩
      refine ⟨_, rfl, ?_⟩
      refine hK.out _ _ ⟨(blk_cell BK524.out 0).trans rfl, (blk_cell BK524.out 1).trans rfl, (blk_cell BK524.out 2).trans rfl, (blk_cell BK534.out 0).trans rfl, (blk_cell BK534.out 1).trans rfl, (blk_cell BK534.out 2).trans rfl⟩ (fun hHeld => ?_)
      clear hK K
      refine norm_ (a' := ?_) ?_ ?_
      rotate_left
      ·show Act.put _ (some 72) _ = _
       simp only [Act.put, sA, s0, sS, i64_w, i32_w]
       rfl
      refine pure_ (i := 23) (N := some 73) (v := ?_) (a' := ?_) #[true, true, true, true, true, true, true, true, true, true, true, true, true, true, true, true, true, true, true, true, true, true, true, true, false, false, false, false, false, false, false, false, false, false] rfl rfl (any_of HT_.out (by kernel_rfl)) (fun _ _ _ h => h) (Or.inl ⟨by rfl, ?_⟩) ?_ ?_
      rotate_left
      ·intro w'
       go_simp
       with_reducible rfl
      rotate_left
      ·simp only [Act.put, sA, s0, sS, i64_w, i32_w]
       rfl
      refine pure_ (i := 24) (N := some 74) (v := ?_) (a' := ?_) #[true, true, true, true, true, true, true, true, true, true, true, true, true, true, true, true, true, true, true, true, true, true, true, true, true, false, false, false, false, false, false, false, false, false] rfl rfl (any_of HT_.out (by kernel_rfl)) (fun _ _ _ h => h) (Or.inl ⟨by rfl, ?_⟩) ?_ ?_
      rotate_left
      ·intro w'
       go_simp
       with_reducible rfl
      rotate_left
      ·simp only [Act.put, sA, s0, sS, i64_w, i32_w]
       rfl
      refine pure_ (i := 25) (N := some 75) (v := ?_) (a' := ?_) #[true, true, true, true, true, true, true, true, true, true, true, true, true, true, true, true, true, true, true, true, true, true, true, true, true, true, false, false, false, false, false, false, false, false] rfl rfl (any_of HT_.out (by kernel_rfl)) (fun _ _ _ h => h) (Or.inl ⟨by rfl, ?_⟩) ?_ ?_
      rotate_left
      ·intro w'
       go_simp
       with_reducible rfl
      rotate_left
      ·simp only [Act.put, sA, s0, sS, i64_w, i32_w]
       rfl
      refine pure_ (i := 29) (N := some 79) (v := ?_) (a' := ?_) #[true, true, true, true, true, true, true, true, true, true, true, true, true, true, true, true, true, true, true, true, true, true, true, true, true, true, false, false, false, true, false, false, false, false] rfl rfl (any_of HT_.out (by kernel_rfl)) (fun _ _ _ h => h) (Or.inl ⟨by rfl, ?_⟩) ?_ ?_
      rotate_left
      ·intro w'
       go_simp
       with_reducible rfl
      rotate_left
      ·simp only [Act.put, sA, s0, sS, i64_w, i32_w]
       rfl
      refine take_ (i := 26) (N := some 76) (v := ?_) (a' := ?_) #[true, true, true, true, true, true, true, true, true, true, true, true, true, true, true, true, true, true, true, true, true, true, true, true, true, true, true, false, false, true, false, false, false, false] rfl rfl (take_ofW HT_.out HW_.out (by kernel_rfl)) (fun _ _ _ h => h) (Or.inl ⟨by rfl, ?_⟩) hHeld ?_ ?_
      rotate_left
      ·rintro w' ⟨s0, s1, s2, s3, s4, s5⟩
       go_simp
       with_reducible rfl
      rotate_left
      ·simp only [Act.put, sA, s0, sS, i64_w, i32_w]
       rfl
      refine take_ (i := 30) (N := some 80) (v := ?_) (a' := ?_) #[true, true, true, true, true, true, true, true, true, true, true, true, true, true, true, true, true, true, true, true, true, true, true, true, true, true, true, false, false, true, true, false, false, false] rfl rfl (take_ofW HT_.out HW_.out (by kernel_rfl)) (fun _ _ _ h => h) (Or.inl ⟨by rfl, ?_⟩) hHeld ?_ ?_
      rotate_left
      ·rintro w' ⟨s0, s1, s2, s3, s4, s5⟩
       go_simp
       with_reducible rfl
      rotate_left
      ·simp only [Act.put, sA, s0, sS, i64_w, i32_w]
       rfl
      refine one_ (i := 27) (N := some 77) #[true, true, true, true, true, true, true, true, true, true, true, true, true, true, true, true, true, true, true, true, true, true, true, true, true, true, true, true, false, true, true, false, false, false] rfl rfl (one_of HT_.out (by kernel_rfl)) (by decide) (fun K hK => ?_)
      refine goes_ Try.func53 (by kernel_rfl) rfl #[.agg #[.slice Ao20 t515.length co20, .slice Ao22 t518.length co22, .slice Ao23 t521.length co23], .int .i64 0] (by rfl) rfl rfl ca ?_
      with_reducible refine (dir_Crash.calls k1 _ _ t515 _ _ t518 _ _ t521 0 t556 t559 t562 _ ?side1 ?side2 ?side3 ?side4 ?side5 ?side6 A39.out).mono ?_
      (case side1 => exact Kd.C_y (Kd.V_reads' HO517.out).2.2)
      (case side2 => exact (Kd.V_reads' HO517.out).2.1)
      (case side3 => exact Kd.C_y (Kd.V_reads' HO520.out).2.2)
      (case side4 => exact (Kd.V_reads' HO520.out).2.1)
      (case side5 => exact Kd.C_y (Kd.R_reads' HO523.out).2.2)
      (case side6 => exact (Kd.R_reads' HO523.out).2.1)
      rintro e w48 ⟨v557, v560, v563, rfl, ho0, ho1, ho2, hb⟩
      refine ⟨_, rfl, ?_⟩
      have n0_ := mkA (Kd.V_mono (Kd.V_told (Kd.V_told (Kd.V_told (Kd.V_old (Kd.V_y HO517.out) hb) (Kd.R_base ho0)) (Kd.R_base ho1)) (Kd.R_base ho2)) (fun _ h_ => h_.1))
      have n1_ := mkA (Kd.V_mono (Kd.V_told (Kd.V_told (Kd.V_told (Kd.V_old (Kd.V_y HO520.out) hb) (Kd.R_base ho0)) (Kd.R_base ho1)) (Kd.R_base ho2)) (fun _ h_ => h_.1))
      have n2_ := mkA (Kd.R_elder' (Kd.R_y HO523.out) (Kd.R_base ho2) hb)
      have n3_ := mkA (Kd.R_mono (Kd.R_told (Kd.R_told (Kd.R_old (Kd.R_y HO527.out) hb) (Kd.R_base ho0)) (Kd.R_base ho1)) (fun _ h_ => h_.1))
      have n4_ := mkA (Kd.R_mono (Kd.R_told (Kd.R_told (Kd.R_old (Kd.R_y HO530.out) hb) (Kd.R_base ho0)) (Kd.R_base ho1)) (fun _ h_ => h_.1))
      have n5_ := mkA (Kd.R_elder' (Kd.R_y HO533.out) (Kd.R_base ho2) hb)
      have n6_ := mkA (Kd.R_mono (Kd.R_told (Kd.R_told (Kd.R_old (Kd.R_y HO538.out) hb) (Kd.R_base ho0)) (Kd.R_base ho1)) (fun _ h_ => h_.1))
      have n7_ := mkA (Kd.R_mono (Kd.R_told (Kd.R_told (Kd.R_old (Kd.R_y HO541.out) hb) (Kd.R_base ho0)) (Kd.R_base ho1)) (fun _ h_ => h_.1))
      have n8_ := mkA (Kd.R_elder' (Kd.R_y HO544.out) (Kd.R_base ho2) hb)
      have n9_ := mkA (Kd.R_mono (Kd.R_told (Kd.R_told (Kd.R_old (Kd.R_y HO548.out) hb) (Kd.R_base ho0)) (Kd.R_base ho1)) (fun _ h_ => h_.1))
      have n10_ := mkA (Kd.R_mono (Kd.R_told (Kd.R_told (Kd.R_old (Kd.R_y HO551.out) hb) (Kd.R_base ho0)) (Kd.R_base ho1)) (fun _ h_ => h_.1))
      have n11_ := mkA (Kd.R_elder' (Kd.R_y HO554.out) (Kd.R_base ho2) hb)
      have n12_ := mkA (Kd.R_lower (Kd.R_new' (Kd.R_new' (Kd.R_new' (Kd.R_new' (Kd.R_new' (Kd.R_new' ho0 (Kd.R_lt (Kd.R_y HO527.out))) (Kd.R_lt (Kd.R_y HO530.out))) (Kd.R_lt (Kd.R_y HO538.out))) (Kd.R_lt (Kd.R_y HO541.out))) (Kd.R_lt (Kd.R_y HO548.out))) (Kd.R_lt (Kd.R_y HO551.out))) (below_size (below_y HB.out)))
      have n13_ := mkA (Kd.R_lower (Kd.R_new' (Kd.R_new' (Kd.R_new' (Kd.R_new' (Kd.R_new' (Kd.R_new' ho1 (Kd.R_lt (Kd.R_y HO527.out))) (Kd.R_lt (Kd.R_y HO530.out))) (Kd.R_lt (Kd.R_y HO538.out))) (Kd.R_lt (Kd.R_y HO541.out))) (Kd.R_lt (Kd.R_y HO548.out))) (Kd.R_lt (Kd.R_y HO551.out))) (below_size (below_y HB.out)))
      have n14_ := mkA (Kd.R_lower (Kd.R_new' (Kd.R_new' (Kd.R_new' (Kd.R_new' ho2 (Kd.R_lt (Kd.R_y HO523.out))) (Kd.R_lt (Kd.R_y HO533.out))) (Kd.R_lt (Kd.R_y HO544.out))) (Kd.R_lt (Kd.R_y HO554.out))) (below_size (below_y HB.out)))
      have n15_ := mkA (blk_below (blk_y BK524.out) hb)
      have n16_ := mkA (blk_below (blk_y BK534.out) hb)
      have n17_ := mkA (below_step (below_y HB.out) hb)
      clear HO517 HO520 HO523 HO527 HO530 HO533 HO538 HO541 HO544 HO548 HO551 HO554 BK524 BK534 HB
      have HO517 := n0_
      have HO520 := n1_
      have HO523 := n2_
      have HO527 := n3_
      have HO530 := n4_
      have HO533 := n5_
      have HO538 := n6_
      have HO541 := n7_
      have HO544 := n8_
      have HO548 := n9_
      have HO551 := n10_
      have HO554 := n11_
      have HO558 := n12_
      have HO561 := n13_
      have HO564 := n14_
      have BK524 := n15_
      have BK534 := n16_
      have HB := n17_
      clear n0_ n1_ n2_ n3_ n4_ n5_ n6_ n7_ n8_ n9_ n10_ n11_ n12_ n13_ n14_ n15_ n16_ n17_
      (try clear hb)
      (try clear hb2)
      (try clear hk)
      (try clear hi)
      (try clear ho0)
      (try clear ho1)
      (try clear ho2)
      obtain ⟨Ao49, co49, eo49⟩ := Kd.R_slice HO558.out
      (first | subst eo49 | (injection eo49 with f1_ f2_ f3_; have f4_ := f1_.symm; have f5_ := f3_.symm; clear f1_ f2_ f3_; subst f4_; subst f5_))
      refine hK.out _ _ ⟨(blk_cell BK524.out 0).trans rfl, (blk_cell BK524.out 1).trans rfl, (blk_cell BK524.out 2).trans rfl, (blk_cell BK534.out 0).trans rfl, (blk_cell BK534.out 1).trans rfl, (blk_cell BK534.out 2).trans rfl⟩ (fun hHeld => ?_)
      clear hK K
      refine norm_ (a' := ?_) ?_ ?_
      rotate_left
      ·show Act.put _ (some 77) _ = _
       simp only [Act.put, sA, s0, sS, i64_w, i32_w]
       rfl
      refine pure_ (i := 28) (N := some 78) (v := ?_) (a' := ?_) #[true, true, true, true, true, true, true, true, true, true, true, true, true, true, true, true, true, true, true, true, true, true, true, true, true, true, true, true, true, true, true, false, false, false] rfl rfl (any_of HT_.out (by kernel_rfl)) (fun _ _ _ h => h) (Or.inl ⟨by rfl, ?_⟩) ?_ ?_
      rotate_left
      ·intro w'
       go_simp
       with_reducible rfl
      rotate_left
      ·simp only [Act.put, sA, s0, sS, i64_w, i32_w]
       rfl
      refine one_ (i := 31) (N := some 81) #[true, true, true, true, true, true, true, true, true, true, true, true, true, true, true, true, true, true, true, true, true, true, true, true, true, true, true, true, true, true, true, true, false, false] rfl rfl (one_of HT_.out (by kernel_rfl)) (by decide) (fun K hK => ?_)
      refine goes_ Try.func56 (by kernel_rfl) rfl #[.slice Ao49 t556.length co49, .slice Ao22 t518.length co22] (by rfl) rfl rfl ca ?_
      with_reducible refine (newsreelref10_Entries.calls k1 _ _ t556 _ _ t518 t565 _ ?side1 ?side2 ?side3 ?side4 A40.out).mono ?_
      (case side1 => exact Kd.C_y (Kd.R_reads' HO558.out).2.2)
      (case side2 => exact (Kd.R_reads' HO558.out).2.1)
      (case side3 => exact Kd.C_y (Kd.V_reads' HO520.out).2.2)
      (case side4 => exact (Kd.V_reads' HO520.out).2.1)
      rintro e w' ⟨rfl, ⟨nd, rfl⟩⟩
      refine ⟨_, rfl, ?_⟩
      refine hK.out _ _ ⟨(blk_cell BK524.out 0).trans rfl, (blk_cell BK524.out 1).trans rfl, (blk_cell BK524.out 2).trans rfl, (blk_cell BK534.out 0).trans rfl, (blk_cell BK534.out 1).trans rfl, (blk_cell BK534.out 2).trans rfl⟩ (fun hHeld => ?_)
      clear hK K
      refine norm_ (a' := ?_) ?_ ?_
      rotate_left
      ·show Act.put _ (some 81) _ = _
       simp only [Act.put, sA, s0, sS, i64_w, i32_w]
       rfl
      refine pure_ (i := 32) (N := some 82) (v := ?_) (a' := ?_) #[true, true, true, true, true, true, true, true, true, true, true, true, true, true, true, true, true, true, true, true, true, true, true, true, true, true, true, true, true, true, true, true, true, false] rfl rfl (any_of HT_.out (by kernel_rfl)) (fun _ _ _ h => h) (Or.inl ⟨by rfl, ?_⟩) ?_ ?_
      rotate_left
      ·intro w'
       go_simp
       with_reducible rfl
      rotate_left
      ·simp only [Act.put, sA, s0, sS, i64_w, i32_w]
       rfl
      refine pure_ (i := 33) (N := some 83) (v := ?_) (a' := ?_) #[true, true, true, true, true, true, true, true, true, true, true, true, true, true, true, true, true, true, true, true, true, true, true, true, true, true, true, true, true, true, true, true, true, true] rfl rfl (any_of HT_.out (by kernel_rfl)) (fun _ _ _ h => h) (Or.inl ⟨by rfl, ?_⟩) ?_ ?_
      rotate_left
      ·intro w'
       go_simp
       with_reducible rfl
      rotate_left
      ·simp only [Act.put, sA, s0, sS, i64_w, i32_w]
       rfl
      refine done_ (done_of HT_.out (by kernel_rfl)) ?_
      try go_wp2
      go_meet
      case rel => exact ⟨_, (!t565), (by first | rfl | (simp; done) | (simp [*]; done)), H', ⟨by have := HK1.out; first | omega | exact Nat.le_refl _⟩, ⟨by (with_reducible repeat (first | apply Kd.V_alloc | apply Kd.V_drewN | apply Kd.V_drew)); exact Kd.V_mono HO517.out (fun _ hk => ⟨hk.1.1.1.1.1.1.1.1.1.1, ⟨hk.1.1.1.1.1.1.1.1.1.2.1, ⟨hk.1.1.1.1.1.1.1.1.1.2.2.1, ⟨hk.1.1.1.1.1.1.1.1.1.2.2.2.1, ⟨hk.1.1.1.1.1.1.1.1.1.2.2.2.2.1, hk.1.1.1.1.1.1.1.1.1.2.2.2.2.2⟩⟩⟩⟩⟩)⟩, ⟨by (with_reducible repeat (first | apply Kd.V_alloc | apply Kd.V_drewN | apply Kd.V_drew)); exact Kd.V_mono HO520.out (fun _ hk => ⟨hk.1.1.1.1.1.1.1.1.1.1, ⟨hk.1.1.1.1.1.1.1.1.1.2.1, ⟨hk.1.1.1.1.1.1.1.1.1.2.2.1, ⟨hk.1.1.1.1.1.1.1.1.1.2.2.2.1, ⟨hk.1.1.1.1.1.1.1.1.1.2.2.2.2.1, hk.1.1.1.1.1.1.1.1.1.2.2.2.2.2⟩⟩⟩⟩⟩)⟩, ⟨by (with_reducible repeat (first | apply Kd.R_alloc | apply Kd.R_drewN | apply Kd.R_drew)); exact Kd.R_mono HO523.out (fun _ hk => hk.1.1.1)⟩, ⟨by (with_reducible repeat (first | apply Kd.R_alloc | apply Kd.R_drewN | apply Kd.R_drew)); exact Kd.R_mono HO527.out (fun _ hk => hk.1.1.1.1.1.1)⟩, ⟨by (with_reducible repeat (first | apply Kd.R_alloc | apply Kd.R_drewN | apply Kd.R_drew)); exact Kd.R_mono HO530.out (fun _ hk => hk.1.1.1.1.1.1)⟩, ⟨by (with_reducible repeat (first | apply Kd.R_alloc | apply Kd.R_drewN | apply Kd.R_drew)); exact Kd.R_mono HO533.out (fun _ hk => hk.1.1.1)⟩, ⟨by (with_reducible repeat (first | refine blk_drewN ?_ _ | refine blk_drew ?_ | refine blk_alloc ?_ _)); exact BK524.out⟩, ⟨by (with_reducible repeat (first | refine blk_drewN ?_ _ | refine blk_drew ?_ | refine blk_alloc ?_ _)); exact BK534.out⟩, ⟨by repeat (first | (with_reducible first | exact HB.out | apply below_alloc | apply pw_below_drewN | apply below_drew1 | refine below_set ?_ GE524.out | refine below_set ?_ GE534.out) | exact HB.out)⟩⟩
    ·replace c38 := Bool.eq_false_iff.mpr c38
     subst c38
     have H1 : (newsreellaw10_DirCrash.j1 k1 a2 true t525 t528 t531) = some r := by rw [if_neg (show ¬ (false = true) by decide)] at H; exact H
     clear H
     have H := H1
     clear H1
     as_aux_lemma =>
      rcases k1 with _ | kz_ <;> simp [newsreellaw10_DirCrash.j1, ht_] at H
   ·replace c35 := Bool.eq_false_iff.mpr c35
    subst c35
    have H1 : (newsreellaw10_DirCrash.j1 k1 a2 true t525 t528 t531) = some r := by rw [if_neg (show ¬ (false = true) by decide)] at H; exact H
    clear H
    have H := H1
    clear H1
    as_aux_lemma =>
     rcases k1 with _ | kz_ <;> simp [newsreellaw10_DirCrash.j1, ht_] at H
  ·replace c32 := Bool.eq_false_iff.mpr c32
   subst c32
   have H1 : (newsreellaw10_DirCrash.j1 k1 a2 true t525 t528 t531) = some r := by rw [if_neg (show ¬ (false = true) by decide)] at H; exact H
   clear H
   have H := H1
   clear H1
   as_aux_lemma =>
    rcases k1 with _ | kz_ <;> simp [newsreellaw10_DirCrash.j1, ht_] at H
 clear HC17
 try clear p2
 try clear c3
 try clear c4
 try clear c5
 try clear c32
 try clear c48
 try clear c53
 try clear c56
 obtain ⟨kq, x83_16, rfl, HA, HJ16, HO_525000, HO_525001, HO_525002, HO_535000, HO_535001, HO_535002, BK524, BK534, HB⟩ := hcut
 rcases kq with _ | kj16
 ·exact absurd HA.out (by simp [newsreellaw10_DirCrash.j1])
 have H := HA.out
 clear HA
 simp only [newsreellaw10_DirCrash.j1] at H
 by_cases c65 : x83_16 = true
 ·subst c65
  have H1 : (some false) = some r := by rw [if_pos rfl] at H; exact H
  clear H
  have H := H1
  clear H1
  as_aux_lemma =>
   cases (Option.some.inj H).trans ht_
 replace c65 := Bool.eq_false_iff.mpr c65
 subst c65
 have H1 : (if (t525.length : Int) = 0 then ((newsreellaw10_awake.f kj16).bind fun t566 => (some t566)) else (if 0 < (t525.length : Int) then ((dir_Do.f kj16 t525 t528 t531 2 ((rd_T77 t525 0).f0) (⟨#[122, 122]⟩ : ByteArray) 0).bind fun bt569 => (if bt569.2.2.2 = 0 then ((dir_Crash.f kj16 bt569.1 bt569.2.1 bt569.2.2.1 a2).bind fun bt581 => ((dir_Find.f bt581.1 bt581.2.1 bt581.2.2 ((rd_T77 t525 0).f0)).bind fun bt591 => ((dir_Find.f bt581.1 bt581.2.1 bt581.2.2 (⟨#[122, 122]⟩ : ByteArray)).bind fun bt593 => (if bt591.2 = true then (if bt591.1 = ((rd_T77 t525 0).f1) then (if bt593.2 = true then (if bt593.1 = ((rd_T77 t525 0).f1) then ((newsreellaw10_had.f t525 t528 t531 bt593.1).bind fun t595 => (if (¬ (t595 = true)) then (some false) else ((newsreellaw10_awake.f kj16).bind fun t596 => (some t596)))) else ((newsreellaw10_awake.f kj16).bind fun t597 => (some t597))) else ((newsreellaw10_awake.f kj16).bind fun t598 => (some t598))) else (some false)) else (if bt593.2 = true then (if bt593.1 = ((rd_T77 t525 0).f1) then ((newsreellaw10_awake.f kj16).bind fun t599 => (some t599)) else (some false)) else (some false)))))) else (if ((rd_T77 t525 0).f0).toList = ([122, 122] : List UInt8) then ((newsreellaw10_awake.f kj16).bind fun t580 => (some t580)) else (some false)))) else (none))) = some r := by rw [if_neg (show ¬ (false = true) by decide)] at H; exact H
 clear H
 have H := H1
 clear H1
 by_cases c66 : (t525.length : Int) = 0
 ·rw [if_pos c66] at H
  have c66b0 : ((t525.length : Int) == 0) = true := beq_iff_eq.mpr c66
  have c66b1 : ((t525.length : Int) != 0) = false := bne_eq_false_iff_eq.mpr c66
  clear c66
  replace H := Option.bind_eq_some_iff.mp H
  obtain ⟨t566, A670, H⟩ := H
  replace H : (some t566) = some r := H
  have A67 := mkA A670
  clear A670
  as_aux_lemma =>
   obtain rfl := Option.some.inj H
   have hnb68 := NB534_524.out
   have hnc68 := NB524_534.out
   have hcz69_0 := bc BK534.out 0 (.slice Ao26 t525.length co26) rfl
   have hcz69_1 := bc BK534.out 1 (.slice Ao29 t528.length co29) rfl
   have hcz69_2 := bc BK534.out 2 (.slice Ao30 t531.length co30) rfl
   have hfz69_0 := blk_frozen BK534.out 0
   have hfz69_1 := blk_frozen BK534.out 1
   have hfz69_2 := blk_frozen BK534.out 2
   go_wp2_with (first | ((with_reducible refine gate_callee (f := 41) rfl ?_); refine goesL_ (some 88) rfl rfl Try.func41 (by kernel_rfl) rfl #[] rfl ca ?_; (with_reducible refine (newsreellaw10_awake.calls kj16  t566 _ A67.out).mono ?_); rintro e w70 ⟨rfl, hb⟩; refine ⟨_, rfl, ?_⟩; have n0_ := mkA (Kd.V_below (Kd.V_y HO_525000.out) hb); have n1_ := mkA (Kd.V_below (Kd.V_y HO_525001.out) hb); have n2_ := mkA (Kd.R_below (Kd.R_y HO_525002.out) hb); have n3_ := mkA (Kd.R_below (Kd.R_y HO_535000.out) hb); have n4_ := mkA (Kd.R_below (Kd.R_y HO_535001.out) hb); have n5_ := mkA (Kd.R_below (Kd.R_y HO_535002.out) hb); have n6_ := mkA (blk_below (blk_y BK524.out) hb); have n7_ := mkA (blk_below (blk_y BK534.out) hb); have n8_ := mkA (below_step (below_y HB.out) hb); clear HO_525000; clear HO_525001; clear HO_525002; clear HO_535000; clear HO_535001; clear HO_535002; clear BK524; clear BK534; clear HB; have HO_525000 := n0_; have HO_525001 := n1_; have HO_525002 := n2_; have HO_535000 := n3_; have HO_535001 := n4_; have HO_535002 := n5_; have BK524 := n6_; have BK534 := n7_; have HB := n8_; clear n0_ n1_ n2_ n3_ n4_ n5_ n6_ n7_ n8_; (try clear hb); (try clear hb2); (try clear hk); (try clear hi)))
   go_ret
   exact ⟨by first | rfl | (simp [errW_none, errW_some] <;> rfl) | (simp [*, errW_none, errW_some] <;> rfl), by repeat (first | (with_reducible first | exact HB.out | apply below_alloc | apply pw_below_drewN | apply below_drew1 | refine below_set ?_ GE524.out | refine below_set ?_ GE534.out) | exact HB.out)⟩
 rw [if_neg c66] at H
 have c66b0 : ((t525.length : Int) == 0) = false := beq_eq_false_iff_ne.mpr c66
 have c66b1 : ((t525.length : Int) != 0) = true := bne_iff_ne.mpr c66
 have c66b2 : ¬ (t525 = []) := fun h_ => c66 (by rw [h_]; rfl)
 by_cases c71 : 0 < (t525.length : Int)
 rotate_left
 ·rw [if_neg c71] at H
  exact absurd H (by simp)
 rw [if_pos c71] at H
 have c71b0 : decide (0 < (t525.length : Int)) = true := decide_eq_true c71
 have c71b1 : decide (0 < t525.length) = true := decide_eq_true (by omega)
 clear c71
 replace H := Option.bind_eq_some_iff.mp H
 obtain ⟨⟨t569, t572, t575, t578⟩, A720, H⟩ := H
 replace H : (if t578 = 0 then ((dir_Crash.f kj16 t569 t572 t575 a2).bind fun bt581 => ((dir_Find.f bt581.1 bt581.2.1 bt581.2.2 ((rd_T77 t525 0).f0)).bind fun bt591 => ((dir_Find.f bt581.1 bt581.2.1 bt581.2.2 (⟨#[122, 122]⟩ : ByteArray)).bind fun bt593 => (if bt591.2 = true then (if bt591.1 = ((rd_T77 t525 0).f1) then (if bt593.2 = true then (if bt593.1 = ((rd_T77 t525 0).f1) then ((newsreellaw10_had.f t525 t528 t531 bt593.1).bind fun t595 => (if (¬ (t595 = true)) then (some false) else ((newsreellaw10_awake.f kj16).bind fun t596 => (some t596)))) else ((newsreellaw10_awake.f kj16).bind fun t597 => (some t597))) else ((newsreellaw10_awake.f kj16).bind fun t598 => (some t598))) else (some false)) else (if bt593.2 = true then (if bt593.1 = ((rd_T77 t525 0).f1) then ((newsreellaw10_awake.f kj16).bind fun t599 => (some t599)) else (some false)) else (some false)))))) else (if ((rd_T77 t525 0).f0).toList = ([122, 122] : List UInt8) then ((newsreellaw10_awake.f kj16).bind fun t580 => (some t580)) else (some false))) = some r := H
 have A72 := mkA A720
 clear A720
 by_cases c73 : t578 = 0
 rotate_left
 ·rw [if_neg c73] at H
  have c73b0 : (t578 == 0) = false := beq_eq_false_iff_ne.mpr c73
  have c73b1 : (t578 != 0) = true := bne_iff_ne.mpr c73
  by_cases c219 : ((rd_T77 t525 0).f0).toList = ([122, 122] : List UInt8)
  ·rw [if_pos c219] at H
   have c219b0 : (((rd_T77 t525 0).f0).toList == ([122, 122] : List UInt8)) = true := beq_iff_eq.mpr c219
   have c219b1 : (((rd_T77 t525 0).f0).toList != ([122, 122] : List UInt8)) = false := bne_eq_false_iff_eq.mpr c219
   clear c219
   replace H := Option.bind_eq_some_iff.mp H
   obtain ⟨t580, A2200, H⟩ := H
   replace H : (some t580) = some r := H
   have A220 := mkA A2200
   clear A2200
   as_aux_lemma =>
    obtain rfl := Option.some.inj H
    have hnb221 := NB534_524.out
    have hnc221 := NB524_534.out
    have hcz222_0 := bc BK534.out 0 (.slice Ao26 t525.length co26) rfl
    have hcz222_1 := bc BK534.out 1 (.slice Ao29 t528.length co29) rfl
    have hcz222_2 := bc BK534.out 2 (.slice Ao30 t531.length co30) rfl
    have hfz222_0 := blk_frozen BK534.out 0
    have hfz222_1 := blk_frozen BK534.out 1
    have hfz222_2 := blk_frozen BK534.out 2
    have p567 : 0 ≤ (0 : Int) := (by omega)
    have q567 : 0 < (t525.length : Int) := odt
    obtain ⟨ad567, e567, hx567_0, hx567_1⟩ := at_T77 (Kd.R_reads' HO_535000.out).2.2 0 p567 q567
    cases e567
    have qi567 : (0 < t525.length) = True := eq_true (by omega)
    (try rw [show ((0 : Int)).toNat = 0 from rfl] at hx567_0)
    (try rw [show 0 * 2 = 0 from rfl] at hx567_0)
    (try rw [Addr.add_zero'] at hx567_0)
    (try rw [show ((0 : Int)).toNat = 0 from rfl] at hx567_1)
    (try rw [show 0 * 2 = 0 from rfl] at hx567_1)
    (try rw [Addr.add_zero'] at hx567_1)
    replace p567 := eq_true p567
    replace q567 := eq_true q567
    go_wp2_with (first | ((with_reducible refine gate_dst (N := 10) rfl ?_); (try (refine gate_guard (by rfl) ?_; dsimp only)); refine box_event ?hg (N := 10) ?hd (cs := #[.string (⟨#[]⟩ : ByteArray), .int .i64 0]) (t := 77) ?hr ?_; (case hd => rfl); (case hg => rfl); (case hr => first | (go_simp; done) | (go_simp; rfl)); intro gb568 hg w223 hbox hb; have n0_ := mkA (Kd.V_below (Kd.V_elderB (Kd.V_y HO_525000.out) gb568 (Nat.le_of_eq hg.symm)) hb); have n1_ := mkA (Kd.V_below (Kd.V_elderB (Kd.V_y HO_525001.out) gb568 (Nat.le_of_eq hg.symm)) hb); have n2_ := mkA (Kd.R_below (Kd.R_y HO_525002.out) hb); have n3_ := mkA (Kd.R_below (Kd.R_elderB (Kd.R_y HO_535000.out) gb568 (Nat.le_of_eq hg.symm)) hb); have n4_ := mkA (Kd.R_below (Kd.R_elderB (Kd.R_y HO_535001.out) gb568 (Nat.le_of_eq hg.symm)) hb); have n5_ := mkA (Kd.R_below (Kd.R_y HO_535002.out) hb); have n6_ := mkA (blk_below (blk_y BK524.out) hb); have n7_ := mkA (blk_below (blk_y BK534.out) hb); have n8_ := mkA (below_step (below_y HB.out) hb); have n9_ := mkA (hbox); have n10_ := mkA ((gz hg HB.out : w.heap.size ≤ gb568)); have n11_ := mkA ((gz hg HB.out : w.heap.size ≤ gb568)); have n12_ := mkA ((gn hg BK524.out : gb524 ≠ gb568)); have n13_ := mkA ((gm hg BK524.out : gb568 ≠ gb524)); have n14_ := mkA ((gn hg BK534.out : gb534 ≠ gb568)); have n15_ := mkA ((gm hg BK534.out : gb568 ≠ gb534)); clear HO_525000; clear HO_525001; clear HO_525002; clear HO_535000; clear HO_535001; clear HO_535002; clear BK524; clear BK534; clear HB; have HO_525000 := n0_; have HO_525001 := n1_; have HO_525002 := n2_; have HO_535000 := n3_; have HO_535001 := n4_; have HO_535002 := n5_; have BK524 := n6_; have BK534 := n7_; have HB := n8_; have BK568 := n9_; have GW568 := n10_; have GE568 := n11_; have NB524_568 := n12_; have NB568_524 := n13_; have NB534_568 := n14_; have NB568_534 := n15_; clear n0_ n1_ n2_ n3_ n4_ n5_ n6_ n7_ n8_ n9_ n10_ n11_ n12_ n13_ n14_ n15_; clear hb hbox hg; have hnb224 := NB568_524.out; have hnc224 := NB524_568.out; have hnb225 := NB568_534.out; have hnc225 := NB534_568.out; have hcz226_0 := bc BK568.out 0 (.string (⟨#[]⟩ : ByteArray)) rfl; have hcz226_1 := bc BK568.out 1 (.int .i64 0) rfl; have hfz226_0 := blk_frozen BK568.out 0; have hfz226_1 := blk_frozen BK568.out 1; have hcz227_0 := bc BK534.out 0 (.slice (some ad567) t525.length co26) rfl; have hcz227_1 := bc BK534.out 1 (.slice Ao29 t528.length co29) rfl; have hcz227_2 := bc BK534.out 2 (.slice Ao30 t531.length co30) rfl; have hfz227_0 := blk_frozen BK534.out 0; have hfz227_1 := blk_frozen BK534.out 1; have hfz227_2 := blk_frozen BK534.out 2) | ((with_reducible refine gate_callee (f := 42) rfl ?_); refine goesL_ (some 98) rfl rfl Try.func42 (by kernel_rfl) rfl #[.agg #[.slice (some ad567) t525.length co26, .slice Ao29 t528.length co29, .slice Ao30 t531.length co30], .agg #[.int .i64 2, .string ((rd_T77 t525 0).f0), .string (⟨#[122, 122]⟩ : ByteArray), .int .i64 0]] rfl ca ?_; (with_reducible refine (dir_Do.calls kj16 _ _ t525 _ _ t528 _ _ t531 2 ((rd_T77 t525 0).f0) (⟨#[122, 122]⟩ : ByteArray) 0 t569 t572 t575 t578 _ ?side1 ?side2 ?side3 ?side4 ?side5 ?side6 A72.out).mono ?_); (case side1 => refine (Kd.R_reads' (e := 77) (base := w.heap.size) (ok := fun k_ => (some k_ ≠ (.slice Ao29 t528.length co29 : Value).ownBlock ∧ k_ ≠ gb568)) (n := t525.length) (c := co26) ?_).2.2; exact (by (with_reducible repeat (first | apply Kd.R_alloc | apply Kd.R_drewN | apply Kd.R_drew)); exact (Kd.R_mono (Kd.R_far (p := ⟨gb568, 1, none⟩) (Kd.R_far (p := ⟨gb568, 0, none⟩) (Kd.R_mono HO_535000.out (fun k_ hk => (⟨hk, hk.2⟩ : _ ∧ k_ ≠ gb568))) (fun _ hk => hk.2) (.string ((rd_T77 t525 0).f0))) (fun _ hk => hk.2) (.int .i64 ((rd_T77 t525 0).f1))) (fun _ h_ => h_.1)))); (case side2 => exact (Kd.R_reads' HO_535000.out).2.1); (case side3 => refine (Kd.R_reads' (e := 77) (base := w.heap.size) (ok := fun k_ => (some k_ ≠ (.slice (some ad567) t525.length co26 : Value).ownBlock ∧ k_ ≠ gb568)) (n := t528.length) (c := co29) ?_).2.2; exact (by (with_reducible repeat (first | apply Kd.R_alloc | apply Kd.R_drewN | apply Kd.R_drew)); exact (Kd.R_mono (Kd.R_far (p := ⟨gb568, 1, none⟩) (Kd.R_far (p := ⟨gb568, 0, none⟩) (Kd.R_mono HO_535001.out (fun k_ hk => (⟨hk, hk.2⟩ : _ ∧ k_ ≠ gb568))) (fun _ hk => hk.2) (.string ((rd_T77 t525 0).f0))) (fun _ hk => hk.2) (.int .i64 ((rd_T77 t525 0).f1))) (fun _ h_ => h_.1)))); (case side4 => exact (Kd.R_reads' HO_535001.out).2.1); (case side5 => refine (Kd.R_reads' (e := 69) (base := w.heap.size) (ok := fun k_ => some k_ ≠ (.slice Ao23 t521.length co23 : Value).ownBlock) (n := t531.length) (c := co30) ?_).2.2; exact (by (with_reducible repeat (first | apply Kd.R_alloc | apply Kd.R_drewN | apply Kd.R_drew)); exact (Kd.R_mono (Kd.R_far (p := ⟨gb568, 1, none⟩) (Kd.R_far (p := ⟨gb568, 0, none⟩) (Kd.R_types HO_535002.out BK568.out (by decide)) (fun _ hk => hk.2) (.string ((rd_T77 t525 0).f0))) (fun _ hk => hk.2) (.int .i64 ((rd_T77 t525 0).f1))) (fun _ h_ => h_.1)))); (case side6 => exact (Kd.R_reads' HO_535002.out).2.1); rintro e w228 ⟨v570, v573, v576, rfl, ho0, ho1, ho2, hb⟩; refine ⟨_, rfl, ?_⟩; have n0_ := mkA (Kd.V_mono (Kd.V_told (Kd.V_told (Kd.V_told (Kd.V_old (by (with_reducible repeat (first | apply Kd.V_alloc | apply Kd.V_drewN | apply Kd.V_drew)); exact (Kd.V_mono (Kd.V_far (p := ⟨gb568, 1, none⟩) (Kd.V_far (p := ⟨gb568, 0, none⟩) (Kd.V_mono HO_525000.out (fun k_ hk => (⟨hk, hk.2⟩ : _ ∧ k_ ≠ gb568))) (fun _ hk => hk.2) (.string ((rd_T77 t525 0).f0))) (fun _ hk => hk.2) (.int .i64 ((rd_T77 t525 0).f1))) (fun _ h_ => h_.1))) hb) (Kd.R_base ho0)) (Kd.R_base ho1)) (Kd.R_base ho2)) (fun _ h_ => h_.1)); have n1_ := mkA (Kd.V_mono (Kd.V_told (Kd.V_told (Kd.V_told (Kd.V_old (by (with_reducible repeat (first | apply Kd.V_alloc | apply Kd.V_drewN | apply Kd.V_drew)); exact (Kd.V_mono (Kd.V_far (p := ⟨gb568, 1, none⟩) (Kd.V_far (p := ⟨gb568, 0, none⟩) (Kd.V_mono HO_525001.out (fun k_ hk => (⟨hk, hk.2⟩ : _ ∧ k_ ≠ gb568))) (fun _ hk => hk.2) (.string ((rd_T77 t525 0).f0))) (fun _ hk => hk.2) (.int .i64 ((rd_T77 t525 0).f1))) (fun _ h_ => h_.1))) hb) (Kd.R_base ho0)) (Kd.R_base ho1)) (Kd.R_base ho2)) (fun _ h_ => h_.1)); have n2_ := mkA (Kd.R_elder' (by (with_reducible repeat (first | apply Kd.R_alloc | apply Kd.R_drewN | apply Kd.R_drew)); exact (Kd.R_mono (Kd.R_far (p := ⟨gb568, 1, none⟩) (Kd.R_far (p := ⟨gb568, 0, none⟩) (Kd.R_types HO_525002.out BK568.out (by decide)) (fun _ hk => hk.2) (.string ((rd_T77 t525 0).f0))) (fun _ hk => hk.2) (.int .i64 ((rd_T77 t525 0).f1))) (fun _ h_ => h_.1))) (Kd.R_base ho2) hb); have n3_ := mkA (Kd.R_mono (Kd.R_told (Kd.R_told (Kd.R_old (by (with_reducible repeat (first | apply Kd.R_alloc | apply Kd.R_drewN | apply Kd.R_drew)); exact (Kd.R_mono (Kd.R_far (p := ⟨gb568, 1, none⟩) (Kd.R_far (p := ⟨gb568, 0, none⟩) (Kd.R_mono HO_535000.out (fun k_ hk => (⟨hk, hk.2⟩ : _ ∧ k_ ≠ gb568))) (fun _ hk => hk.2) (.string ((rd_T77 t525 0).f0))) (fun _ hk => hk.2) (.int .i64 ((rd_T77 t525 0).f1))) (fun _ h_ => h_.1))) hb) (Kd.R_base ho0)) (Kd.R_base ho1)) (fun _ h_ => h_.1)); have n4_ := mkA (Kd.R_mono (Kd.R_told (Kd.R_told (Kd.R_old (by (with_reducible repeat (first | apply Kd.R_alloc | apply Kd.R_drewN | apply Kd.R_drew)); exact (Kd.R_mono (Kd.R_far (p := ⟨gb568, 1, none⟩) (Kd.R_far (p := ⟨gb568, 0, none⟩) (Kd.R_mono HO_535001.out (fun k_ hk => (⟨hk, hk.2⟩ : _ ∧ k_ ≠ gb568))) (fun _ hk => hk.2) (.string ((rd_T77 t525 0).f0))) (fun _ hk => hk.2) (.int .i64 ((rd_T77 t525 0).f1))) (fun _ h_ => h_.1))) hb) (Kd.R_base ho0)) (Kd.R_base ho1)) (fun _ h_ => h_.1)); have n5_ := mkA (Kd.R_elder' (by (with_reducible repeat (first | apply Kd.R_alloc | apply Kd.R_drewN | apply Kd.R_drew)); exact (Kd.R_mono (Kd.R_far (p := ⟨gb568, 1, none⟩) (Kd.R_far (p := ⟨gb568, 0, none⟩) (Kd.R_types HO_535002.out BK568.out (by decide)) (fun _ hk => hk.2) (.string ((rd_T77 t525 0).f0))) (fun _ hk => hk.2) (.int .i64 ((rd_T77 t525 0).f1))) (fun _ h_ => h_.1))) (Kd.R_base ho2) hb); have n6_ := mkA (Kd.R_lower (Kd.R_newB (Kd.R_new' (Kd.R_new' ho0 (Kd.R_lt (by (with_reducible repeat (first | apply Kd.R_alloc | apply Kd.R_drewN | apply Kd.R_drew)); exact (Kd.R_mono (Kd.R_far (p := ⟨gb568, 1, none⟩) (Kd.R_far (p := ⟨gb568, 0, none⟩) (Kd.R_mono HO_535000.out (fun k_ hk => (⟨hk, hk.2⟩ : _ ∧ k_ ≠ gb568))) (fun _ hk => hk.2) (.string ((rd_T77 t525 0).f0))) (fun _ hk => hk.2) (.int .i64 ((rd_T77 t525 0).f1))) (fun _ h_ => h_.1))))) (Kd.R_lt (by (with_reducible repeat (first | apply Kd.R_alloc | apply Kd.R_drewN | apply Kd.R_drew)); exact (Kd.R_mono (Kd.R_far (p := ⟨gb568, 1, none⟩) (Kd.R_far (p := ⟨gb568, 0, none⟩) (Kd.R_mono HO_535001.out (fun k_ hk => (⟨hk, hk.2⟩ : _ ∧ k_ ≠ gb568))) (fun _ hk => hk.2) (.string ((rd_T77 t525 0).f0))) (fun _ hk => hk.2) (.int .i64 ((rd_T77 t525 0).f1))) (fun _ h_ => h_.1))))) (g := gb568) (o := .cells #[.string ((rd_T77 t525 0).f0), .int .i64 ((rd_T77 t525 0).f1)] 77 (0, 0)) (by (with_reducible repeat (first | refine blk_drewN ?_ _ | refine blk_drew ?_ | refine blk_alloc ?_ _)); refine blk_put (cs := #[.string ((rd_T77 t525 0).f0), .int .i64 0]) ?_ 1 _ rfl; (with_reducible repeat (first | refine blk_drewN ?_ _ | refine blk_drew ?_ | refine blk_alloc ?_ _)); refine blk_put (cs := #[.string (⟨#[]⟩ : ByteArray), .int .i64 0]) ?_ 0 _ rfl; (with_reducible repeat (first | refine blk_drewN ?_ _ | refine blk_drew ?_ | refine blk_alloc ?_ _)); exact BK568.out)) (below_size (below_y HB.out))); have n7_ := mkA (Kd.R_lower (Kd.R_newB (Kd.R_new' (Kd.R_new' ho1 (Kd.R_lt (by (with_reducible repeat (first | apply Kd.R_alloc | apply Kd.R_drewN | apply Kd.R_drew)); exact (Kd.R_mono (Kd.R_far (p := ⟨gb568, 1, none⟩) (Kd.R_far (p := ⟨gb568, 0, none⟩) (Kd.R_mono HO_535000.out (fun k_ hk => (⟨hk, hk.2⟩ : _ ∧ k_ ≠ gb568))) (fun _ hk => hk.2) (.string ((rd_T77 t525 0).f0))) (fun _ hk => hk.2) (.int .i64 ((rd_T77 t525 0).f1))) (fun _ h_ => h_.1))))) (Kd.R_lt (by (with_reducible repeat (first | apply Kd.R_alloc | apply Kd.R_drewN | apply Kd.R_drew)); exact (Kd.R_mono (Kd.R_far (p := ⟨gb568, 1, none⟩) (Kd.R_far (p := ⟨gb568, 0, none⟩) (Kd.R_mono HO_535001.out (fun k_ hk => (⟨hk, hk.2⟩ : _ ∧ k_ ≠ gb568))) (fun _ hk => hk.2) (.string ((rd_T77 t525 0).f0))) (fun _ hk => hk.2) (.int .i64 ((rd_T77 t525 0).f1))) (fun _ h_ => h_.1))))) (g := gb568) (o := .cells #[.string ((rd_T77 t525 0).f0), .int .i64 ((rd_T77 t525 0).f1)] 77 (0, 0)) (by (with_reducible repeat (first | refine blk_drewN ?_ _ | refine blk_drew ?_ | refine blk_alloc ?_ _)); refine blk_put (cs := #[.string ((rd_T77 t525 0).f0), .int .i64 0]) ?_ 1 _ rfl; (with_reducible repeat (first | refine blk_drewN ?_ _ | refine blk_drew ?_ | refine blk_alloc ?_ _)); refine blk_put (cs := #[.string (⟨#[]⟩ : ByteArray), .int .i64 0]) ?_ 0 _ rfl; (with_reducible repeat (first | refine blk_drewN ?_ _ | refine blk_drew ?_ | refine blk_alloc ?_ _)); exact BK568.out)) (below_size (below_y HB.out))); have n8_ := mkA (Kd.R_lower (Kd.R_new' (Kd.R_new' ho2 (Kd.R_lt (by (with_reducible repeat (first | apply Kd.R_alloc | apply Kd.R_drewN | apply Kd.R_drew)); exact (Kd.R_mono (Kd.R_far (p := ⟨gb568, 1, none⟩) (Kd.R_far (p := ⟨gb568, 0, none⟩) (Kd.R_types HO_525002.out BK568.out (by decide)) (fun _ hk => hk.2) (.string ((rd_T77 t525 0).f0))) (fun _ hk => hk.2) (.int .i64 ((rd_T77 t525 0).f1))) (fun _ h_ => h_.1))))) (Kd.R_lt (by (with_reducible repeat (first | apply Kd.R_alloc | apply Kd.R_drewN | apply Kd.R_drew)); exact (Kd.R_mono (Kd.R_far (p := ⟨gb568, 1, none⟩) (Kd.R_far (p := ⟨gb568, 0, none⟩) (Kd.R_types HO_535002.out BK568.out (by decide)) (fun _ hk => hk.2) (.string ((rd_T77 t525 0).f0))) (fun _ hk => hk.2) (.int .i64 ((rd_T77 t525 0).f1))) (fun _ h_ => h_.1))))) (below_size (below_y HB.out))); have n9_ := mkA (blk_below (g := gb524) (o := .cells #[.slice Ao20 t515.length co20, .slice Ao22 t518.length co22, .slice Ao23 t521.length co23] 67 (0, 0)) (by (iterate 2 ((with_reducible repeat (first | refine blk_drewN ?_ _ | refine blk_drew ?_ | refine blk_alloc ?_ _)); refine blk_far ?_ NB524_568.out _)); (with_reducible repeat (first | refine blk_drewN ?_ _ | refine blk_drew ?_ | refine blk_alloc ?_ _)); exact BK524.out) hb); have n10_ := mkA (blk_below (g := gb534) (o := .cells #[.slice (some ad567) t525.length co26, .slice Ao29 t528.length co29, .slice Ao30 t531.length co30] 67 (0, 0)) (by (iterate 2 ((with_reducible repeat (first | refine blk_drewN ?_ _ | refine blk_drew ?_ | refine blk_alloc ?_ _)); refine blk_far ?_ NB534_568.out _)); (with_reducible repeat (first | refine blk_drewN ?_ _ | refine blk_drew ?_ | refine blk_alloc ?_ _)); exact BK534.out) hb); have n11_ := mkA (blk_below (g := gb568) (o := .cells #[.string ((rd_T77 t525 0).f0), .int .i64 ((rd_T77 t525 0).f1)] 77 (0, 0)) (by (with_reducible repeat (first | refine blk_drewN ?_ _ | refine blk_drew ?_ | refine blk_alloc ?_ _)); refine blk_put (cs := #[.string ((rd_T77 t525 0).f0), .int .i64 0]) ?_ 1 _ rfl; (with_reducible repeat (first | refine blk_drewN ?_ _ | refine blk_drew ?_ | refine blk_alloc ?_ _)); refine blk_put (cs := #[.string (⟨#[]⟩ : ByteArray), .int .i64 0]) ?_ 0 _ rfl; (with_reducible repeat (first | refine blk_drewN ?_ _ | refine blk_drew ?_ | refine blk_alloc ?_ _)); exact BK568.out) hb); have n12_ := mkA (below_step (below_y HB.out) hb); clear HO_525000; clear HO_525001; clear HO_525002; clear HO_535000; clear HO_535001; clear HO_535002; clear BK524; clear BK534; clear BK568; clear HB; have HO_525000 := n0_; have HO_525001 := n1_; have HO_525002 := n2_; have HO_535000 := n3_; have HO_535001 := n4_; have HO_535002 := n5_; have HO571 := n6_; have HO574 := n7_; have HO577 := n8_; have BK524 := n9_; have BK534 := n10_; have BK568 := n11_; have HB := n12_; clear n0_ n1_ n2_ n3_ n4_ n5_ n6_ n7_ n8_ n9_ n10_ n11_ n12_; (try clear hb); (try clear hb2); (try clear hk); (try clear hi); (try clear ho0); (try clear ho1); (try clear ho2)) | ((with_reducible refine gate_dst (N := 11) rfl ?_); (try (refine gate_guard (by rfl) ?_; dsimp only)); refine box_event ?hg (N := 11) ?hd (cs := #[.slice none 0 0, .slice none 0 0, .slice none 0 0]) (t := 67) ?hr ?_; (case hd => rfl); (case hg => rfl); (case hr => first | (go_simp; done) | (go_simp; rfl)); intro gb579 hg w229 hbox hb; have n0_ := mkA (Kd.V_below (Kd.V_elderB (Kd.V_y HO_525000.out) gb579 (Nat.le_of_eq hg.symm)) hb); have n1_ := mkA (Kd.V_below (Kd.V_elderB (Kd.V_y HO_525001.out) gb579 (Nat.le_of_eq hg.symm)) hb); have n2_ := mkA (Kd.R_below (Kd.R_y HO_525002.out) hb); have n3_ := mkA (Kd.R_below (Kd.R_y HO_535000.out) hb); have n4_ := mkA (Kd.R_below (Kd.R_y HO_535001.out) hb); have n5_ := mkA (Kd.R_below (Kd.R_y HO_535002.out) hb); have n6_ := mkA (Kd.R_below (Kd.R_y HO571.out) hb); have n7_ := mkA (Kd.R_below (Kd.R_y HO574.out) hb); have n8_ := mkA (Kd.R_below (Kd.R_y HO577.out) hb); have n9_ := mkA (blk_below (blk_y BK524.out) hb); have n10_ := mkA (blk_below (blk_y BK534.out) hb); have n11_ := mkA (blk_below (blk_y BK568.out) hb); have n12_ := mkA (below_step (below_y HB.out) hb); have n13_ := mkA (hbox); have n14_ := mkA ((gz hg HB.out : w.heap.size ≤ gb579)); have n15_ := mkA ((gz hg HB.out : w.heap.size ≤ gb579)); have n16_ := mkA ((gn hg BK524.out : gb524 ≠ gb579)); have n17_ := mkA ((gm hg BK524.out : gb579 ≠ gb524)); have n18_ := mkA ((gn hg BK534.out : gb534 ≠ gb579)); have n19_ := mkA ((gm hg BK534.out : gb579 ≠ gb534)); have n20_ := mkA ((gn hg BK568.out : gb568 ≠ gb579)); have n21_ := mkA ((gm hg BK568.out : gb579 ≠ gb568)); clear HO_525000; clear HO_525001; clear HO_525002; clear HO_535000; clear HO_535001; clear HO_535002; clear HO571; clear HO574; clear HO577; clear BK524; clear BK534; clear BK568; clear HB; have HO_525000 := n0_; have HO_525001 := n1_; have HO_525002 := n2_; have HO_535000 := n3_; have HO_535001 := n4_; have HO_535002 := n5_; have HO571 := n6_; have HO574 := n7_; have HO577 := n8_; have BK524 := n9_; have BK534 := n10_; have BK568 := n11_; have HB := n12_; have BK579 := n13_; have GW579 := n14_; have GE579 := n15_; have NB524_579 := n16_; have NB579_524 := n17_; have NB534_579 := n18_; have NB579_534 := n19_; have NB568_579 := n20_; have NB579_568 := n21_; clear n0_ n1_ n2_ n3_ n4_ n5_ n6_ n7_ n8_ n9_ n10_ n11_ n12_ n13_ n14_ n15_ n16_ n17_ n18_ n19_ n20_ n21_; clear hb hbox hg; obtain ⟨Ao230, co230, eo230⟩ := Kd.R_slice HO571.out; subst eo230; have hnb231 := NB579_524.out; have hnc231 := NB524_579.out; have hnb232 := NB579_534.out; have hnc232 := NB534_579.out; have hnb233 := NB579_568.out; have hnc233 := NB568_579.out; have hcz234_0 := bc BK579.out 0 (.slice none 0 0) rfl; have hcz234_1 := bc BK579.out 1 (.slice none 0 0) rfl; have hcz234_2 := bc BK579.out 2 (.slice none 0 0) rfl; have hfz234_0 := blk_frozen BK579.out 0; have hfz234_1 := blk_frozen BK579.out 1; have hfz234_2 := blk_frozen BK579.out 2; obtain ⟨Ao235, co235, eo235⟩ := Kd.R_slice HO574.out; subst eo235; obtain ⟨Ao236, co236, eo236⟩ := Kd.R_slice HO577.out; subst eo236; have hcz237_0 := bc BK568.out 0 (.string ((rd_T77 t525 0).f0)) rfl; have hcz237_1 := bc BK568.out 1 (.int .i64 ((rd_T77 t525 0).f1)) rfl; have hfz237_0 := blk_frozen BK568.out 0; have hfz237_1 := blk_frozen BK568.out 1) | (go_at_call 41; (with_reducible refine (newsreellaw10_awake.calls kj16  t580 _ A220.out).mono ?_); rintro e w238 ⟨rfl, hb⟩; have n0_ := mkA (Kd.V_below (by (with_reducible repeat (first | apply Kd.V_alloc | apply Kd.V_drewN | apply Kd.V_drew)); exact (Kd.V_mono (Kd.V_far (p := ⟨gb579, 2, none⟩) (Kd.V_far (p := ⟨gb579, 1, none⟩) (Kd.V_far (p := ⟨gb579, 0, none⟩) (Kd.V_mono HO_525000.out (fun k_ hk => (⟨hk, hk.2⟩ : _ ∧ k_ ≠ gb579))) (fun _ hk => hk.2) (.slice Ao230 t569.length co230)) (fun _ hk => hk.2) (.slice Ao235 t572.length co235)) (fun _ hk => hk.2) (.slice Ao236 t575.length co236)) (fun _ h_ => h_.1))) hb); have n1_ := mkA (Kd.V_below (by (with_reducible repeat (first | apply Kd.V_alloc | apply Kd.V_drewN | apply Kd.V_drew)); exact (Kd.V_mono (Kd.V_far (p := ⟨gb579, 2, none⟩) (Kd.V_far (p := ⟨gb579, 1, none⟩) (Kd.V_far (p := ⟨gb579, 0, none⟩) (Kd.V_mono HO_525001.out (fun k_ hk => (⟨hk, hk.2⟩ : _ ∧ k_ ≠ gb579))) (fun _ hk => hk.2) (.slice Ao230 t569.length co230)) (fun _ hk => hk.2) (.slice Ao235 t572.length co235)) (fun _ hk => hk.2) (.slice Ao236 t575.length co236)) (fun _ h_ => h_.1))) hb); have n2_ := mkA (Kd.R_below (by (with_reducible repeat (first | apply Kd.R_alloc | apply Kd.R_drewN | apply Kd.R_drew)); exact (Kd.R_mono (Kd.R_far (p := ⟨gb579, 2, none⟩) (Kd.R_far (p := ⟨gb579, 1, none⟩) (Kd.R_far (p := ⟨gb579, 0, none⟩) (Kd.R_types HO_525002.out BK579.out (by decide)) (fun _ hk => hk.2) (.slice Ao230 t569.length co230)) (fun _ hk => hk.2) (.slice Ao235 t572.length co235)) (fun _ hk => hk.2) (.slice Ao236 t575.length co236)) (fun _ h_ => h_.1))) hb); have n3_ := mkA (Kd.R_below (by (with_reducible repeat (first | apply Kd.R_alloc | apply Kd.R_drewN | apply Kd.R_drew)); exact (Kd.R_mono (Kd.R_far (p := ⟨gb579, 2, none⟩) (Kd.R_far (p := ⟨gb579, 1, none⟩) (Kd.R_far (p := ⟨gb579, 0, none⟩) (Kd.R_types HO_535000.out BK579.out (by decide)) (fun _ hk => hk.2) (.slice Ao230 t569.length co230)) (fun _ hk => hk.2) (.slice Ao235 t572.length co235)) (fun _ hk => hk.2) (.slice Ao236 t575.length co236)) (fun _ h_ => h_.1))) hb); have n4_ := mkA (Kd.R_below (by (with_reducible repeat (first | apply Kd.R_alloc | apply Kd.R_drewN | apply Kd.R_drew)); exact (Kd.R_mono (Kd.R_far (p := ⟨gb579, 2, none⟩) (Kd.R_far (p := ⟨gb579, 1, none⟩) (Kd.R_far (p := ⟨gb579, 0, none⟩) (Kd.R_types HO_535001.out BK579.out (by decide)) (fun _ hk => hk.2) (.slice Ao230 t569.length co230)) (fun _ hk => hk.2) (.slice Ao235 t572.length co235)) (fun _ hk => hk.2) (.slice Ao236 t575.length co236)) (fun _ h_ => h_.1))) hb); have n5_ := mkA (Kd.R_below (by (with_reducible repeat (first | apply Kd.R_alloc | apply Kd.R_drewN | apply Kd.R_drew)); exact (Kd.R_mono (Kd.R_far (p := ⟨gb579, 2, none⟩) (Kd.R_far (p := ⟨gb579, 1, none⟩) (Kd.R_far (p := ⟨gb579, 0, none⟩) (Kd.R_types HO_535002.out BK579.out (by decide)) (fun _ hk => hk.2) (.slice Ao230 t569.length co230)) (fun _ hk => hk.2) (.slice Ao235 t572.length co235)) (fun _ hk => hk.2) (.slice Ao236 t575.length co236)) (fun _ h_ => h_.1))) hb); have n6_ := mkA (Kd.R_below (by (with_reducible repeat (first | apply Kd.R_alloc | apply Kd.R_drewN | apply Kd.R_drew)); exact (Kd.R_mono (Kd.R_far (p := ⟨gb579, 2, none⟩) (Kd.R_far (p := ⟨gb579, 1, none⟩) (Kd.R_far (p := ⟨gb579, 0, none⟩) (Kd.R_types HO571.out BK579.out (by decide)) (fun _ hk => hk.2) (.slice Ao230 t569.length co230)) (fun _ hk => hk.2) (.slice Ao235 t572.length co235)) (fun _ hk => hk.2) (.slice Ao236 t575.length co236)) (fun _ h_ => h_.1))) hb); have n7_ := mkA (Kd.R_below (by (with_reducible repeat (first | apply Kd.R_alloc | apply Kd.R_drewN | apply Kd.R_drew)); exact (Kd.R_mono (Kd.R_far (p := ⟨gb579, 2, none⟩) (Kd.R_far (p := ⟨gb579, 1, none⟩) (Kd.R_far (p := ⟨gb579, 0, none⟩) (Kd.R_types HO574.out BK579.out (by decide)) (fun _ hk => hk.2) (.slice Ao230 t569.length co230)) (fun _ hk => hk.2) (.slice Ao235 t572.length co235)) (fun _ hk => hk.2) (.slice Ao236 t575.length co236)) (fun _ h_ => h_.1))) hb); have n8_ := mkA (Kd.R_below (by (with_reducible repeat (first | apply Kd.R_alloc | apply Kd.R_drewN | apply Kd.R_drew)); exact (Kd.R_mono (Kd.R_far (p := ⟨gb579, 2, none⟩) (Kd.R_far (p := ⟨gb579, 1, none⟩) (Kd.R_far (p := ⟨gb579, 0, none⟩) (Kd.R_types HO577.out BK579.out (by decide)) (fun _ hk => hk.2) (.slice Ao230 t569.length co230)) (fun _ hk => hk.2) (.slice Ao235 t572.length co235)) (fun _ hk => hk.2) (.slice Ao236 t575.length co236)) (fun _ h_ => h_.1))) hb); have n9_ := mkA (blk_below (g := gb524) (o := .cells #[.slice Ao20 t515.length co20, .slice Ao22 t518.length co22, .slice Ao23 t521.length co23] 67 (0, 0)) (by (iterate 3 ((with_reducible repeat (first | refine blk_drewN ?_ _ | refine blk_drew ?_ | refine blk_alloc ?_ _)); refine blk_far ?_ NB524_579.out _)); (with_reducible repeat (first | refine blk_drewN ?_ _ | refine blk_drew ?_ | refine blk_alloc ?_ _)); exact BK524.out) hb); have n10_ := mkA (blk_below (g := gb534) (o := .cells #[.slice (some ad567) t525.length co26, .slice Ao29 t528.length co29, .slice Ao30 t531.length co30] 67 (0, 0)) (by (iterate 3 ((with_reducible repeat (first | refine blk_drewN ?_ _ | refine blk_drew ?_ | refine blk_alloc ?_ _)); refine blk_far ?_ NB534_579.out _)); (with_reducible repeat (first | refine blk_drewN ?_ _ | refine blk_drew ?_ | refine blk_alloc ?_ _)); exact BK534.out) hb); have n11_ := mkA (blk_below (g := gb568) (o := .cells #[.string ((rd_T77 t525 0).f0), .int .i64 ((rd_T77 t525 0).f1)] 77 (0, 0)) (by (iterate 3 ((with_reducible repeat (first | refine blk_drewN ?_ _ | refine blk_drew ?_ | refine blk_alloc ?_ _)); refine blk_far ?_ NB568_579.out _)); (with_reducible repeat (first | refine blk_drewN ?_ _ | refine blk_drew ?_ | refine blk_alloc ?_ _)); exact BK568.out) hb); have n12_ := mkA (blk_below (g := gb579) (o := .cells #[.slice Ao230 t569.length co230, .slice Ao235 t572.length co235, .slice Ao236 t575.length co236] 67 (0, 0)) (by (with_reducible repeat (first | refine blk_drewN ?_ _ | refine blk_drew ?_ | refine blk_alloc ?_ _)); refine blk_put (cs := #[.slice Ao230 t569.length co230, .slice Ao235 t572.length co235, .slice none 0 0]) ?_ 2 _ rfl; (with_reducible repeat (first | refine blk_drewN ?_ _ | refine blk_drew ?_ | refine blk_alloc ?_ _)); refine blk_put (cs := #[.slice Ao230 t569.length co230, .slice none 0 0, .slice none 0 0]) ?_ 1 _ rfl; (with_reducible repeat (first | refine blk_drewN ?_ _ | refine blk_drew ?_ | refine blk_alloc ?_ _)); refine blk_put (cs := #[.slice none 0 0, .slice none 0 0, .slice none 0 0]) ?_ 0 _ rfl; (with_reducible repeat (first | refine blk_drewN ?_ _ | refine blk_drew ?_ | refine blk_alloc ?_ _)); exact BK579.out) hb); have n13_ := mkA (below_step (below_y HB.out) hb); clear HO_525000; clear HO_525001; clear HO_525002; clear HO_535000; clear HO_535001; clear HO_535002; clear HO571; clear HO574; clear HO577; clear BK524; clear BK534; clear BK568; clear BK579; clear HB; have HO_525000 := n0_; have HO_525001 := n1_; have HO_525002 := n2_; have HO_535000 := n3_; have HO_535001 := n4_; have HO_535002 := n5_; have HO571 := n6_; have HO574 := n7_; have HO577 := n8_; have BK524 := n9_; have BK534 := n10_; have BK568 := n11_; have BK579 := n12_; have HB := n13_; clear n0_ n1_ n2_ n3_ n4_ n5_ n6_ n7_ n8_ n9_ n10_ n11_ n12_ n13_; (try clear hb); (try clear hb2); (try clear hk); (try clear hi)))
    go_ret
    exact ⟨by first | rfl | (simp [errW_none, errW_some] <;> rfl) | (simp [*, errW_none, errW_some] <;> rfl), by repeat (first | (with_reducible first | exact HB.out | apply below_alloc | apply pw_below_drewN | apply below_drew1 | refine below_set ?_ GE524.out | refine below_set ?_ GE534.out | refine below_set ?_ GE568.out | refine below_set ?_ GE579.out) | exact HB.out)⟩
  ·rw [if_neg c219] at H
   have c219b0 : (((rd_T77 t525 0).f0).toList == ([122, 122] : List UInt8)) = false := beq_eq_false_iff_ne.mpr c219
   have c219b1 : (((rd_T77 t525 0).f0).toList != ([122, 122] : List UInt8)) = true := bne_iff_ne.mpr c219
   as_aux_lemma =>
    cases (Option.some.inj H).trans ht_
 rw [if_pos c73] at H
 have c73b0 : (t578 == 0) = true := beq_iff_eq.mpr c73
 have c73b1 : (t578 != 0) = false := bne_eq_false_iff_eq.mpr c73
 clear c73
 replace H := Option.bind_eq_some_iff.mp H
 obtain ⟨⟨t581, t584, t587⟩, A740, H⟩ := H
 replace H : ((dir_Find.f t581 t584 t587 ((rd_T77 t525 0).f0)).bind fun bt591 => ((dir_Find.f t581 t584 t587 (⟨#[122, 122]⟩ : ByteArray)).bind fun bt593 => (if bt591.2 = true then (if bt591.1 = ((rd_T77 t525 0).f1) then (if bt593.2 = true then (if bt593.1 = ((rd_T77 t525 0).f1) then ((newsreellaw10_had.f t525 t528 t531 bt593.1).bind fun t595 => (if (¬ (t595 = true)) then (some false) else ((newsreellaw10_awake.f kj16).bind fun t596 => (some t596)))) else ((newsreellaw10_awake.f kj16).bind fun t597 => (some t597))) else ((newsreellaw10_awake.f kj16).bind fun t598 => (some t598))) else (some false)) else (if bt593.2 = true then (if bt593.1 = ((rd_T77 t525 0).f1) then ((newsreellaw10_awake.f kj16).bind fun t599 => (some t599)) else (some false)) else (some false))))) = some r := H
 have A74 := mkA A740
 clear A740
 replace H := Option.bind_eq_some_iff.mp H
 obtain ⟨⟨t591, t592⟩, A750, H⟩ := H
 replace H : ((dir_Find.f t581 t584 t587 (⟨#[122, 122]⟩ : ByteArray)).bind fun bt593 => (if t592 = true then (if t591 = ((rd_T77 t525 0).f1) then (if bt593.2 = true then (if bt593.1 = ((rd_T77 t525 0).f1) then ((newsreellaw10_had.f t525 t528 t531 bt593.1).bind fun t595 => (if (¬ (t595 = true)) then (some false) else ((newsreellaw10_awake.f kj16).bind fun t596 => (some t596)))) else ((newsreellaw10_awake.f kj16).bind fun t597 => (some t597))) else ((newsreellaw10_awake.f kj16).bind fun t598 => (some t598))) else (some false)) else (if bt593.2 = true then (if bt593.1 = ((rd_T77 t525 0).f1) then ((newsreellaw10_awake.f kj16).bind fun t599 => (some t599)) else (some false)) else (some false)))) = some r := H
 have A75 := mkA A750
 clear A750
 replace H := Option.bind_eq_some_iff.mp H
 obtain ⟨⟨t593, t594⟩, A760, H⟩ := H
 replace H : (if t592 = true then (if t591 = ((rd_T77 t525 0).f1) then (if t594 = true then (if t593 = ((rd_T77 t525 0).f1) then ((newsreellaw10_had.f t525 t528 t531 t593).bind fun t595 => (if (¬ (t595 = true)) then (some false) else ((newsreellaw10_awake.f kj16).bind fun t596 => (some t596)))) else ((newsreellaw10_awake.f kj16).bind fun t597 => (some t597))) else ((newsreellaw10_awake.f kj16).bind fun t598 => (some t598))) else (some false)) else (if t594 = true then (if t593 = ((rd_T77 t525 0).f1) then ((newsreellaw10_awake.f kj16).bind fun t599 => (some t599)) else (some false)) else (some false))) = some r := H
 have A76 := mkA A760
 clear A760
 refine (Classical.em (t592 = true)).symm.elim (fun c77 => ?_) (fun c77 => ?_)
 replace c77 := Bool.eq_false_iff.mpr c77
 subst c77
 have H1 : (if t594 = true then (if t593 = ((rd_T77 t525 0).f1) then ((newsreellaw10_awake.f kj16).bind fun t599 => (some t599)) else (some false)) else (some false)) = some r := by rw [if_neg (show ¬ (false = true) by decide)] at H; exact H
 clear H
 have H := H1
 clear H1
 refine (Classical.em (t594 = true)).symm.elim (fun c184 => ?_) (fun c184 => ?_)
 ·replace c184 := Bool.eq_false_iff.mpr c184
  subst c184
  have H1 : (some false) = some r := by rw [if_neg (show ¬ (false = true) by decide)] at H; exact H
  clear H
  have H := H1
  clear H1
  as_aux_lemma =>
   cases (Option.some.inj H).trans ht_
 subst c184
 have H1 : (if t593 = ((rd_T77 t525 0).f1) then ((newsreellaw10_awake.f kj16).bind fun t599 => (some t599)) else (some false)) = some r := by rw [if_pos rfl] at H; exact H
 clear H
 have H := H1
 clear H1
 refine (Classical.em (t593 = ((rd_T77 t525 0).f1))).symm.elim (fun c185 => ?_) (fun c185 => ?_)
 ·rw [if_neg c185] at H
  have c185b0 : (t593 == ((rd_T77 t525 0).f1)) = false := beq_eq_false_iff_ne.mpr c185
  have c185b1 : (t593 != ((rd_T77 t525 0).f1)) = true := bne_iff_ne.mpr c185
  as_aux_lemma =>
   cases (Option.some.inj H).trans ht_
 rw [if_pos c185] at H
 have c185b0 : (t593 == ((rd_T77 t525 0).f1)) = true := beq_iff_eq.mpr c185
 have c185b1 : (t593 != ((rd_T77 t525 0).f1)) = false := bne_eq_false_iff_eq.mpr c185
 clear c185
 replace H := Option.bind_eq_some_iff.mp H
 obtain ⟨tz_, Az0_, H⟩ := H
 replace H : (some tz_) = some r := H
 have Az_ := mkA Az0_
 clear Az0_
 rotate_left
 subst c77
 have H1 : (if t591 = ((rd_T77 t525 0).f1) then (if t594 = true then (if t593 = ((rd_T77 t525 0).f1) then ((newsreellaw10_had.f t525 t528 t531 t593).bind fun t595 => (if (¬ (t595 = true)) then (some false) else ((newsreellaw10_awake.f kj16).bind fun t596 => (some t596)))) else ((newsreellaw10_awake.f kj16).bind fun t597 => (some t597))) else ((newsreellaw10_awake.f kj16).bind fun t598 => (some t598))) else (some false)) = some r := by rw [if_pos rfl] at H; exact H
 clear H
 have H := H1
 clear H1
 refine (Classical.em (t591 = ((rd_T77 t525 0).f1))).symm.elim (fun c78 => ?_) (fun c78 => ?_)
 ·rw [if_neg c78] at H
  have c78b0 : (t591 == ((rd_T77 t525 0).f1)) = false := beq_eq_false_iff_ne.mpr c78
  have c78b1 : (t591 != ((rd_T77 t525 0).f1)) = true := bne_iff_ne.mpr c78
  as_aux_lemma =>
   cases (Option.some.inj H).trans ht_
 rw [if_pos c78] at H
 have c78b0 : (t591 == ((rd_T77 t525 0).f1)) = true := beq_iff_eq.mpr c78
 have c78b1 : (t591 != ((rd_T77 t525 0).f1)) = false := bne_eq_false_iff_eq.mpr c78
 clear c78
 refine (Classical.em (t594 = true)).symm.elim (fun c79 => ?_) (fun c79 => ?_)
 replace c79 := Bool.eq_false_iff.mpr c79
 subst c79
 have H1 : ((newsreellaw10_awake.f kj16).bind fun tz_ => (some tz_)) = some r := by rw [if_neg (show ¬ (false = true) by decide)] at H; exact H
 clear H
 have H := H1
 clear H1
 replace H := Option.bind_eq_some_iff.mp H
 obtain ⟨tz_, Az0_, H⟩ := H
 replace H : (some tz_) = some r := H
 have Az_ := mkA Az0_
 clear Az0_
 rotate_left
 subst c79
 have H1 : (if t593 = ((rd_T77 t525 0).f1) then ((newsreellaw10_had.f t525 t528 t531 t593).bind fun t595 => (if (¬ (t595 = true)) then (some false) else ((newsreellaw10_awake.f kj16).bind fun t596 => (some t596)))) else ((newsreellaw10_awake.f kj16).bind fun t597 => (some t597))) = some r := by rw [if_pos rfl] at H; exact H
 clear H
 have H := H1
 clear H1
 refine (Classical.em (t593 = ((rd_T77 t525 0).f1))).symm.elim (fun c80 => ?_) (fun c80 => ?_)
 rw [if_neg c80] at H
 have c80b0 : (t593 == ((rd_T77 t525 0).f1)) = false := beq_eq_false_iff_ne.mpr c80
 have c80b1 : (t593 != ((rd_T77 t525 0).f1)) = true := bne_iff_ne.mpr c80
 replace H := Option.bind_eq_some_iff.mp H
 obtain ⟨tz_, Az0_, H⟩ := H
 replace H : (some tz_) = some r := H
 have Az_ := mkA Az0_
 clear Az0_
 rotate_left
 rw [if_pos c80] at H
 have c80b0 : (t593 == ((rd_T77 t525 0).f1)) = true := beq_iff_eq.mpr c80
 have c80b1 : (t593 != ((rd_T77 t525 0).f1)) = false := bne_eq_false_iff_eq.mpr c80
 clear c80
 replace H := Option.bind_eq_some_iff.mp H
 obtain ⟨t595, A810, H⟩ := H
 replace H : (if (¬ (t595 = true)) then (some false) else ((newsreellaw10_awake.f kj16).bind fun tz_ => (some tz_))) = some r := H
 have A81 := mkA A810
 clear A810
 by_cases c82 : (¬ (t595 = true))
 ·rw [if_pos c82] at H
  have c82b0 : (!t595) = true := by simpa using c82
  clear c82
  as_aux_lemma =>
   cases (Option.some.inj H).trans ht_
 rw [if_neg c82] at H
 have c82b0 : (!t595) = false := by simpa using c82
 clear c82
 replace H := Option.bind_eq_some_iff.mp H
 obtain ⟨tz_, Az0_, H⟩ := H
 replace H : (some tz_) = some r := H
 have Az_ := mkA Az0_
 clear Az0_
 all_goals
  as_aux_lemma =>
   obtain rfl := Option.some.inj H
   have hnb84 := NB534_524.out
   have hnc84 := NB524_534.out
   have hcz85_0 := bc BK534.out 0 (.slice Ao26 t525.length co26) rfl
   have hcz85_1 := bc BK534.out 1 (.slice Ao29 t528.length co29) rfl
   have hcz85_2 := bc BK534.out 2 (.slice Ao30 t531.length co30) rfl
   have hfz85_0 := blk_frozen BK534.out 0
   have hfz85_1 := blk_frozen BK534.out 1
   have hfz85_2 := blk_frozen BK534.out 2
   have p567 : 0 ≤ (0 : Int) := (by omega)
   have q567 : 0 < (t525.length : Int) := odt
   obtain ⟨ad567, e567, hx567_0, hx567_1⟩ := at_T77 (Kd.R_reads' HO_535000.out).2.2 0 p567 q567
   cases e567
   have qi567 : (0 < t525.length) = True := eq_true (by omega)
   (try rw [show ((0 : Int)).toNat = 0 from rfl] at hx567_0)
   (try rw [show 0 * 2 = 0 from rfl] at hx567_0)
   (try rw [Addr.add_zero'] at hx567_0)
   (try rw [show ((0 : Int)).toNat = 0 from rfl] at hx567_1)
   (try rw [show 0 * 2 = 0 from rfl] at hx567_1)
   (try rw [Addr.add_zero'] at hx567_1)
   replace p567 := eq_true p567
   replace q567 := eq_true q567
   go_wp2_with (first | ((with_reducible refine gate_dst (N := 10) rfl ?_); (try (refine gate_guard (by rfl) ?_; dsimp only)); refine box_event ?hg (N := 10) ?hd (cs := #[.string (⟨#[]⟩ : ByteArray), .int .i64 0]) (t := 77) ?hr ?_; (case hd => rfl); (case hg => rfl); (case hr => first | (go_simp; done) | (go_simp; rfl)); intro gb568 hg w86 hbox hb; have n0_ := mkA (Kd.V_below (Kd.V_elderB (Kd.V_y HO_525000.out) gb568 (Nat.le_of_eq hg.symm)) hb); have n1_ := mkA (Kd.V_below (Kd.V_elderB (Kd.V_y HO_525001.out) gb568 (Nat.le_of_eq hg.symm)) hb); have n2_ := mkA (Kd.R_below (Kd.R_y HO_525002.out) hb); have n3_ := mkA (Kd.R_below (Kd.R_elderB (Kd.R_y HO_535000.out) gb568 (Nat.le_of_eq hg.symm)) hb); have n4_ := mkA (Kd.R_below (Kd.R_elderB (Kd.R_y HO_535001.out) gb568 (Nat.le_of_eq hg.symm)) hb); have n5_ := mkA (Kd.R_below (Kd.R_y HO_535002.out) hb); have n6_ := mkA (blk_below (blk_y BK524.out) hb); have n7_ := mkA (blk_below (blk_y BK534.out) hb); have n8_ := mkA (below_step (below_y HB.out) hb); have n9_ := mkA (hbox); have n10_ := mkA ((gz hg HB.out : w.heap.size ≤ gb568)); have n11_ := mkA ((gz hg HB.out : w.heap.size ≤ gb568)); have n12_ := mkA ((gn hg BK524.out : gb524 ≠ gb568)); have n13_ := mkA ((gm hg BK524.out : gb568 ≠ gb524)); have n14_ := mkA ((gn hg BK534.out : gb534 ≠ gb568)); have n15_ := mkA ((gm hg BK534.out : gb568 ≠ gb534)); clear HO_525000; clear HO_525001; clear HO_525002; clear HO_535000; clear HO_535001; clear HO_535002; clear BK524; clear BK534; clear HB; have HO_525000 := n0_; have HO_525001 := n1_; have HO_525002 := n2_; have HO_535000 := n3_; have HO_535001 := n4_; have HO_535002 := n5_; have BK524 := n6_; have BK534 := n7_; have HB := n8_; have BK568 := n9_; have GW568 := n10_; have GE568 := n11_; have NB524_568 := n12_; have NB568_524 := n13_; have NB534_568 := n14_; have NB568_534 := n15_; clear n0_ n1_ n2_ n3_ n4_ n5_ n6_ n7_ n8_ n9_ n10_ n11_ n12_ n13_ n14_ n15_; clear hb hbox hg; have hnb87 := NB568_524.out; have hnc87 := NB524_568.out; have hnb88 := NB568_534.out; have hnc88 := NB534_568.out; have hcz89_0 := bc BK568.out 0 (.string (⟨#[]⟩ : ByteArray)) rfl; have hcz89_1 := bc BK568.out 1 (.int .i64 0) rfl; have hfz89_0 := blk_frozen BK568.out 0; have hfz89_1 := blk_frozen BK568.out 1; have hcz90_0 := bc BK534.out 0 (.slice (some ad567) t525.length co26) rfl; have hcz90_1 := bc BK534.out 1 (.slice Ao29 t528.length co29) rfl; have hcz90_2 := bc BK534.out 2 (.slice Ao30 t531.length co30) rfl; have hfz90_0 := blk_frozen BK534.out 0; have hfz90_1 := blk_frozen BK534.out 1; have hfz90_2 := blk_frozen BK534.out 2) | ((with_reducible refine gate_callee (f := 42) rfl ?_); refine goesL_ (some 98) rfl rfl Try.func42 (by kernel_rfl) rfl #[.agg #[.slice (some ad567) t525.length co26, .slice Ao29 t528.length co29, .slice Ao30 t531.length co30], .agg #[.int .i64 2, .string ((rd_T77 t525 0).f0), .string (⟨#[122, 122]⟩ : ByteArray), .int .i64 0]] rfl ca ?_; (with_reducible refine (dir_Do.calls kj16 _ _ t525 _ _ t528 _ _ t531 2 ((rd_T77 t525 0).f0) (⟨#[122, 122]⟩ : ByteArray) 0 t569 t572 t575 t578 _ ?side1 ?side2 ?side3 ?side4 ?side5 ?side6 A72.out).mono ?_); (case side1 => refine (Kd.R_reads' (e := 77) (base := w.heap.size) (ok := fun k_ => (some k_ ≠ (.slice Ao29 t528.length co29 : Value).ownBlock ∧ k_ ≠ gb568)) (n := t525.length) (c := co26) ?_).2.2; exact (by (with_reducible repeat (first | apply Kd.R_alloc | apply Kd.R_drewN | apply Kd.R_drew)); exact (Kd.R_mono (Kd.R_far (p := ⟨gb568, 1, none⟩) (Kd.R_far (p := ⟨gb568, 0, none⟩) (Kd.R_mono HO_535000.out (fun k_ hk => (⟨hk, hk.2⟩ : _ ∧ k_ ≠ gb568))) (fun _ hk => hk.2) (.string ((rd_T77 t525 0).f0))) (fun _ hk => hk.2) (.int .i64 ((rd_T77 t525 0).f1))) (fun _ h_ => h_.1)))); (case side2 => exact (Kd.R_reads' HO_535000.out).2.1); (case side3 => refine (Kd.R_reads' (e := 77) (base := w.heap.size) (ok := fun k_ => (some k_ ≠ (.slice (some ad567) t525.length co26 : Value).ownBlock ∧ k_ ≠ gb568)) (n := t528.length) (c := co29) ?_).2.2; exact (by (with_reducible repeat (first | apply Kd.R_alloc | apply Kd.R_drewN | apply Kd.R_drew)); exact (Kd.R_mono (Kd.R_far (p := ⟨gb568, 1, none⟩) (Kd.R_far (p := ⟨gb568, 0, none⟩) (Kd.R_mono HO_535001.out (fun k_ hk => (⟨hk, hk.2⟩ : _ ∧ k_ ≠ gb568))) (fun _ hk => hk.2) (.string ((rd_T77 t525 0).f0))) (fun _ hk => hk.2) (.int .i64 ((rd_T77 t525 0).f1))) (fun _ h_ => h_.1)))); (case side4 => exact (Kd.R_reads' HO_535001.out).2.1); (case side5 => refine (Kd.R_reads' (e := 69) (base := w.heap.size) (ok := fun k_ => some k_ ≠ (.slice Ao23 t521.length co23 : Value).ownBlock) (n := t531.length) (c := co30) ?_).2.2; exact (by (with_reducible repeat (first | apply Kd.R_alloc | apply Kd.R_drewN | apply Kd.R_drew)); exact (Kd.R_mono (Kd.R_far (p := ⟨gb568, 1, none⟩) (Kd.R_far (p := ⟨gb568, 0, none⟩) (Kd.R_types HO_535002.out BK568.out (by decide)) (fun _ hk => hk.2) (.string ((rd_T77 t525 0).f0))) (fun _ hk => hk.2) (.int .i64 ((rd_T77 t525 0).f1))) (fun _ h_ => h_.1)))); (case side6 => exact (Kd.R_reads' HO_535002.out).2.1); rintro e w91 ⟨v570, v573, v576, rfl, ho0, ho1, ho2, hb⟩; refine ⟨_, rfl, ?_⟩; have n0_ := mkA (Kd.V_mono (Kd.V_told (Kd.V_told (Kd.V_told (Kd.V_old (by (with_reducible repeat (first | apply Kd.V_alloc | apply Kd.V_drewN | apply Kd.V_drew)); exact (Kd.V_mono (Kd.V_far (p := ⟨gb568, 1, none⟩) (Kd.V_far (p := ⟨gb568, 0, none⟩) (Kd.V_mono HO_525000.out (fun k_ hk => (⟨hk, hk.2⟩ : _ ∧ k_ ≠ gb568))) (fun _ hk => hk.2) (.string ((rd_T77 t525 0).f0))) (fun _ hk => hk.2) (.int .i64 ((rd_T77 t525 0).f1))) (fun _ h_ => h_.1))) hb) (Kd.R_base ho0)) (Kd.R_base ho1)) (Kd.R_base ho2)) (fun _ h_ => h_.1)); have n1_ := mkA (Kd.V_mono (Kd.V_told (Kd.V_told (Kd.V_told (Kd.V_old (by (with_reducible repeat (first | apply Kd.V_alloc | apply Kd.V_drewN | apply Kd.V_drew)); exact (Kd.V_mono (Kd.V_far (p := ⟨gb568, 1, none⟩) (Kd.V_far (p := ⟨gb568, 0, none⟩) (Kd.V_mono HO_525001.out (fun k_ hk => (⟨hk, hk.2⟩ : _ ∧ k_ ≠ gb568))) (fun _ hk => hk.2) (.string ((rd_T77 t525 0).f0))) (fun _ hk => hk.2) (.int .i64 ((rd_T77 t525 0).f1))) (fun _ h_ => h_.1))) hb) (Kd.R_base ho0)) (Kd.R_base ho1)) (Kd.R_base ho2)) (fun _ h_ => h_.1)); have n2_ := mkA (Kd.R_elder' (by (with_reducible repeat (first | apply Kd.R_alloc | apply Kd.R_drewN | apply Kd.R_drew)); exact (Kd.R_mono (Kd.R_far (p := ⟨gb568, 1, none⟩) (Kd.R_far (p := ⟨gb568, 0, none⟩) (Kd.R_types HO_525002.out BK568.out (by decide)) (fun _ hk => hk.2) (.string ((rd_T77 t525 0).f0))) (fun _ hk => hk.2) (.int .i64 ((rd_T77 t525 0).f1))) (fun _ h_ => h_.1))) (Kd.R_base ho2) hb); have n3_ := mkA (Kd.R_mono (Kd.R_told (Kd.R_told (Kd.R_old (by (with_reducible repeat (first | apply Kd.R_alloc | apply Kd.R_drewN | apply Kd.R_drew)); exact (Kd.R_mono (Kd.R_far (p := ⟨gb568, 1, none⟩) (Kd.R_far (p := ⟨gb568, 0, none⟩) (Kd.R_mono HO_535000.out (fun k_ hk => (⟨hk, hk.2⟩ : _ ∧ k_ ≠ gb568))) (fun _ hk => hk.2) (.string ((rd_T77 t525 0).f0))) (fun _ hk => hk.2) (.int .i64 ((rd_T77 t525 0).f1))) (fun _ h_ => h_.1))) hb) (Kd.R_base ho0)) (Kd.R_base ho1)) (fun _ h_ => h_.1)); have n4_ := mkA (Kd.R_mono (Kd.R_told (Kd.R_told (Kd.R_old (by (with_reducible repeat (first | apply Kd.R_alloc | apply Kd.R_drewN | apply Kd.R_drew)); exact (Kd.R_mono (Kd.R_far (p := ⟨gb568, 1, none⟩) (Kd.R_far (p := ⟨gb568, 0, none⟩) (Kd.R_mono HO_535001.out (fun k_ hk => (⟨hk, hk.2⟩ : _ ∧ k_ ≠ gb568))) (fun _ hk => hk.2) (.string ((rd_T77 t525 0).f0))) (fun _ hk => hk.2) (.int .i64 ((rd_T77 t525 0).f1))) (fun _ h_ => h_.1))) hb) (Kd.R_base ho0)) (Kd.R_base ho1)) (fun _ h_ => h_.1)); have n5_ := mkA (Kd.R_elder' (by (with_reducible repeat (first | apply Kd.R_alloc | apply Kd.R_drewN | apply Kd.R_drew)); exact (Kd.R_mono (Kd.R_far (p := ⟨gb568, 1, none⟩) (Kd.R_far (p := ⟨gb568, 0, none⟩) (Kd.R_types HO_535002.out BK568.out (by decide)) (fun _ hk => hk.2) (.string ((rd_T77 t525 0).f0))) (fun _ hk => hk.2) (.int .i64 ((rd_T77 t525 0).f1))) (fun _ h_ => h_.1))) (Kd.R_base ho2) hb); have n6_ := mkA (Kd.R_lower (Kd.R_newB (Kd.R_new' (Kd.R_new' ho0 (Kd.R_lt (by (with_reducible repeat (first | apply Kd.R_alloc | apply Kd.R_drewN | apply Kd.R_drew)); exact (Kd.R_mono (Kd.R_far (p := ⟨gb568, 1, none⟩) (Kd.R_far (p := ⟨gb568, 0, none⟩) (Kd.R_mono HO_535000.out (fun k_ hk => (⟨hk, hk.2⟩ : _ ∧ k_ ≠ gb568))) (fun _ hk => hk.2) (.string ((rd_T77 t525 0).f0))) (fun _ hk => hk.2) (.int .i64 ((rd_T77 t525 0).f1))) (fun _ h_ => h_.1))))) (Kd.R_lt (by (with_reducible repeat (first | apply Kd.R_alloc | apply Kd.R_drewN | apply Kd.R_drew)); exact (Kd.R_mono (Kd.R_far (p := ⟨gb568, 1, none⟩) (Kd.R_far (p := ⟨gb568, 0, none⟩) (Kd.R_mono HO_535001.out (fun k_ hk => (⟨hk, hk.2⟩ : _ ∧ k_ ≠ gb568))) (fun _ hk => hk.2) (.string ((rd_T77 t525 0).f0))) (fun _ hk => hk.2) (.int .i64 ((rd_T77 t525 0).f1))) (fun _ h_ => h_.1))))) (g := gb568) (o := .cells #[.string ((rd_T77 t525 0).f0), .int .i64 ((rd_T77 t525 0).f1)] 77 (0, 0)) (by (with_reducible repeat (first | refine blk_drewN ?_ _ | refine blk_drew ?_ | refine blk_alloc ?_ _)); refine blk_put (cs := #[.string ((rd_T77 t525 0).f0), .int .i64 0]) ?_ 1 _ rfl; (with_reducible repeat (first | refine blk_drewN ?_ _ | refine blk_drew ?_ | refine blk_alloc ?_ _)); refine blk_put (cs := #[.string (⟨#[]⟩ : ByteArray), .int .i64 0]) ?_ 0 _ rfl; (with_reducible repeat (first | refine blk_drewN ?_ _ | refine blk_drew ?_ | refine blk_alloc ?_ _)); exact BK568.out)) (below_size (below_y HB.out))); have n7_ := mkA (Kd.R_lower (Kd.R_newB (Kd.R_new' (Kd.R_new' ho1 (Kd.R_lt (by (with_reducible repeat (first | apply Kd.R_alloc | apply Kd.R_drewN | apply Kd.R_drew)); exact (Kd.R_mono (Kd.R_far (p := ⟨gb568, 1, none⟩) (Kd.R_far (p := ⟨gb568, 0, none⟩) (Kd.R_mono HO_535000.out (fun k_ hk => (⟨hk, hk.2⟩ : _ ∧ k_ ≠ gb568))) (fun _ hk => hk.2) (.string ((rd_T77 t525 0).f0))) (fun _ hk => hk.2) (.int .i64 ((rd_T77 t525 0).f1))) (fun _ h_ => h_.1))))) (Kd.R_lt (by (with_reducible repeat (first | apply Kd.R_alloc | apply Kd.R_drewN | apply Kd.R_drew)); exact (Kd.R_mono (Kd.R_far (p := ⟨gb568, 1, none⟩) (Kd.R_far (p := ⟨gb568, 0, none⟩) (Kd.R_mono HO_535001.out (fun k_ hk => (⟨hk, hk.2⟩ : _ ∧ k_ ≠ gb568))) (fun _ hk => hk.2) (.string ((rd_T77 t525 0).f0))) (fun _ hk => hk.2) (.int .i64 ((rd_T77 t525 0).f1))) (fun _ h_ => h_.1))))) (g := gb568) (o := .cells #[.string ((rd_T77 t525 0).f0), .int .i64 ((rd_T77 t525 0).f1)] 77 (0, 0)) (by (with_reducible repeat (first | refine blk_drewN ?_ _ | refine blk_drew ?_ | refine blk_alloc ?_ _)); refine blk_put (cs := #[.string ((rd_T77 t525 0).f0), .int .i64 0]) ?_ 1 _ rfl; (with_reducible repeat (first | refine blk_drewN ?_ _ | refine blk_drew ?_ | refine blk_alloc ?_ _)); refine blk_put (cs := #[.string (⟨#[]⟩ : ByteArray), .int .i64 0]) ?_ 0 _ rfl; (with_reducible repeat (first | refine blk_drewN ?_ _ | refine blk_drew ?_ | refine blk_alloc ?_ _)); exact BK568.out)) (below_size (below_y HB.out))); have n8_ := mkA (Kd.R_lower (Kd.R_new' (Kd.R_new' ho2 (Kd.R_lt (by (with_reducible repeat (first | apply Kd.R_alloc | apply Kd.R_drewN | apply Kd.R_drew)); exact (Kd.R_mono (Kd.R_far (p := ⟨gb568, 1, none⟩) (Kd.R_far (p := ⟨gb568, 0, none⟩) (Kd.R_types HO_525002.out BK568.out (by decide)) (fun _ hk => hk.2) (.string ((rd_T77 t525 0).f0))) (fun _ hk => hk.2) (.int .i64 ((rd_T77 t525 0).f1))) (fun _ h_ => h_.1))))) (Kd.R_lt (by (with_reducible repeat (first | apply Kd.R_alloc | apply Kd.R_drewN | apply Kd.R_drew)); exact (Kd.R_mono (Kd.R_far (p := ⟨gb568, 1, none⟩) (Kd.R_far (p := ⟨gb568, 0, none⟩) (Kd.R_types HO_535002.out BK568.out (by decide)) (fun _ hk => hk.2) (.string ((rd_T77 t525 0).f0))) (fun _ hk => hk.2) (.int .i64 ((rd_T77 t525 0).f1))) (fun _ h_ => h_.1))))) (below_size (below_y HB.out))); have n9_ := mkA (blk_below (g := gb524) (o := .cells #[.slice Ao20 t515.length co20, .slice Ao22 t518.length co22, .slice Ao23 t521.length co23] 67 (0, 0)) (by (iterate 2 ((with_reducible repeat (first | refine blk_drewN ?_ _ | refine blk_drew ?_ | refine blk_alloc ?_ _)); refine blk_far ?_ NB524_568.out _)); (with_reducible repeat (first | refine blk_drewN ?_ _ | refine blk_drew ?_ | refine blk_alloc ?_ _)); exact BK524.out) hb); have n10_ := mkA (blk_below (g := gb534) (o := .cells #[.slice (some ad567) t525.length co26, .slice Ao29 t528.length co29, .slice Ao30 t531.length co30] 67 (0, 0)) (by (iterate 2 ((with_reducible repeat (first | refine blk_drewN ?_ _ | refine blk_drew ?_ | refine blk_alloc ?_ _)); refine blk_far ?_ NB534_568.out _)); (with_reducible repeat (first | refine blk_drewN ?_ _ | refine blk_drew ?_ | refine blk_alloc ?_ _)); exact BK534.out) hb); have n11_ := mkA (blk_below (g := gb568) (o := .cells #[.string ((rd_T77 t525 0).f0), .int .i64 ((rd_T77 t525 0).f1)] 77 (0, 0)) (by (with_reducible repeat (first | refine blk_drewN ?_ _ | refine blk_drew ?_ | refine blk_alloc ?_ _)); refine blk_put (cs := #[.string ((rd_T77 t525 0).f0), .int .i64 0]) ?_ 1 _ rfl; (with_reducible repeat (first | refine blk_drewN ?_ _ | refine blk_drew ?_ | refine blk_alloc ?_ _)); refine blk_put (cs := #[.string (⟨#[]⟩ : ByteArray), .int .i64 0]) ?_ 0 _ rfl; (with_reducible repeat (first | refine blk_drewN ?_ _ | refine blk_drew ?_ | refine blk_alloc ?_ _)); exact BK568.out) hb); have n12_ := mkA (below_step (below_y HB.out) hb); clear HO_525000; clear HO_525001; clear HO_525002; clear HO_535000; clear HO_535001; clear HO_535002; clear BK524; clear BK534; clear BK568; clear HB; have HO_525000 := n0_; have HO_525001 := n1_; have HO_525002 := n2_; have HO_535000 := n3_; have HO_535001 := n4_; have HO_535002 := n5_; have HO571 := n6_; have HO574 := n7_; have HO577 := n8_; have BK524 := n9_; have BK534 := n10_; have BK568 := n11_; have HB := n12_; clear n0_ n1_ n2_ n3_ n4_ n5_ n6_ n7_ n8_ n9_ n10_ n11_ n12_; (try clear hb); (try clear hb2); (try clear hk); (try clear hi); (try clear ho0); (try clear ho1); (try clear ho2)) | ((with_reducible refine gate_dst (N := 11) rfl ?_); (try (refine gate_guard (by rfl) ?_; dsimp only)); refine box_event ?hg (N := 11) ?hd (cs := #[.slice none 0 0, .slice none 0 0, .slice none 0 0]) (t := 67) ?hr ?_; (case hd => rfl); (case hg => rfl); (case hr => first | (go_simp; done) | (go_simp; rfl)); intro gb579 hg w92 hbox hb; have n0_ := mkA (Kd.V_below (Kd.V_elderB (Kd.V_y HO_525000.out) gb579 (Nat.le_of_eq hg.symm)) hb); have n1_ := mkA (Kd.V_below (Kd.V_elderB (Kd.V_y HO_525001.out) gb579 (Nat.le_of_eq hg.symm)) hb); have n2_ := mkA (Kd.R_below (Kd.R_y HO_525002.out) hb); have n3_ := mkA (Kd.R_below (Kd.R_y HO_535000.out) hb); have n4_ := mkA (Kd.R_below (Kd.R_y HO_535001.out) hb); have n5_ := mkA (Kd.R_below (Kd.R_y HO_535002.out) hb); have n6_ := mkA (Kd.R_below (Kd.R_y HO571.out) hb); have n7_ := mkA (Kd.R_below (Kd.R_y HO574.out) hb); have n8_ := mkA (Kd.R_below (Kd.R_y HO577.out) hb); have n9_ := mkA (blk_below (blk_y BK524.out) hb); have n10_ := mkA (blk_below (blk_y BK534.out) hb); have n11_ := mkA (blk_below (blk_y BK568.out) hb); have n12_ := mkA (below_step (below_y HB.out) hb); have n13_ := mkA (hbox); have n14_ := mkA ((gz hg HB.out : w.heap.size ≤ gb579)); have n15_ := mkA ((gz hg HB.out : w.heap.size ≤ gb579)); have n16_ := mkA ((gn hg BK524.out : gb524 ≠ gb579)); have n17_ := mkA ((gm hg BK524.out : gb579 ≠ gb524)); have n18_ := mkA ((gn hg BK534.out : gb534 ≠ gb579)); have n19_ := mkA ((gm hg BK534.out : gb579 ≠ gb534)); have n20_ := mkA ((gn hg BK568.out : gb568 ≠ gb579)); have n21_ := mkA ((gm hg BK568.out : gb579 ≠ gb568)); clear HO_525000; clear HO_525001; clear HO_525002; clear HO_535000; clear HO_535001; clear HO_535002; clear HO571; clear HO574; clear HO577; clear BK524; clear BK534; clear BK568; clear HB; have HO_525000 := n0_; have HO_525001 := n1_; have HO_525002 := n2_; have HO_535000 := n3_; have HO_535001 := n4_; have HO_535002 := n5_; have HO571 := n6_; have HO574 := n7_; have HO577 := n8_; have BK524 := n9_; have BK534 := n10_; have BK568 := n11_; have HB := n12_; have BK579 := n13_; have GW579 := n14_; have GE579 := n15_; have NB524_579 := n16_; have NB579_524 := n17_; have NB534_579 := n18_; have NB579_534 := n19_; have NB568_579 := n20_; have NB579_568 := n21_; clear n0_ n1_ n2_ n3_ n4_ n5_ n6_ n7_ n8_ n9_ n10_ n11_ n12_ n13_ n14_ n15_ n16_ n17_ n18_ n19_ n20_ n21_; clear hb hbox hg; obtain ⟨Ao93, co93, eo93⟩ := Kd.R_slice HO571.out; subst eo93; have hnb94 := NB579_524.out; have hnc94 := NB524_579.out; have hnb95 := NB579_534.out; have hnc95 := NB534_579.out; have hnb96 := NB579_568.out; have hnc96 := NB568_579.out; have hcz97_0 := bc BK579.out 0 (.slice none 0 0) rfl; have hcz97_1 := bc BK579.out 1 (.slice none 0 0) rfl; have hcz97_2 := bc BK579.out 2 (.slice none 0 0) rfl; have hfz97_0 := blk_frozen BK579.out 0; have hfz97_1 := blk_frozen BK579.out 1; have hfz97_2 := blk_frozen BK579.out 2; obtain ⟨Ao98, co98, eo98⟩ := Kd.R_slice HO574.out; subst eo98; obtain ⟨Ao99, co99, eo99⟩ := Kd.R_slice HO577.out; subst eo99) | ((with_reducible refine gate_callee (f := 53) rfl ?_); refine goesL_ (some 111) rfl rfl Try.func53 (by kernel_rfl) rfl #[.agg #[.slice Ao93 t569.length co93, .slice Ao98 t572.length co98, .slice Ao99 t575.length co99], .int .i64 a2] rfl ca ?_; (with_reducible refine (dir_Crash.calls kj16 _ _ t569 _ _ t572 _ _ t575 a2 t581 t584 t587 _ ?side1 ?side2 ?side3 ?side4 ?side5 ?side6 A74.out).mono ?_); (case side1 => refine (Kd.R_reads' (e := 77) (base := w.heap.size) (ok := fun k_ => (((some k_ ≠ (.slice Ao98 t572.length co98 : Value).ownBlock ∧ some k_ ≠ (.slice (some ad567) t525.length co26 : Value).ownBlock) ∧ some k_ ≠ (.slice Ao29 t528.length co29 : Value).ownBlock) ∧ k_ ≠ gb568)) (n := t569.length) (c := co93) ?_).2.2; exact (by (with_reducible repeat (first | apply Kd.R_alloc | apply Kd.R_drewN | apply Kd.R_drew)); exact (Kd.R_mono (Kd.R_far (p := ⟨gb579, 2, none⟩) (Kd.R_far (p := ⟨gb579, 1, none⟩) (Kd.R_far (p := ⟨gb579, 0, none⟩) (Kd.R_types HO571.out BK579.out (by decide)) (fun _ hk => hk.2) (.slice Ao93 t569.length co93)) (fun _ hk => hk.2) (.slice Ao98 t572.length co98)) (fun _ hk => hk.2) (.slice Ao99 t575.length co99)) (fun _ h_ => h_.1)))); (case side2 => exact (Kd.R_reads' HO571.out).2.1); (case side3 => refine (Kd.R_reads' (e := 77) (base := w.heap.size) (ok := fun k_ => (((some k_ ≠ (.slice Ao93 t569.length co93 : Value).ownBlock ∧ some k_ ≠ (.slice (some ad567) t525.length co26 : Value).ownBlock) ∧ some k_ ≠ (.slice Ao29 t528.length co29 : Value).ownBlock) ∧ k_ ≠ gb568)) (n := t572.length) (c := co98) ?_).2.2; exact (by (with_reducible repeat (first | apply Kd.R_alloc | apply Kd.R_drewN | apply Kd.R_drew)); exact (Kd.R_mono (Kd.R_far (p := ⟨gb579, 2, none⟩) (Kd.R_far (p := ⟨gb579, 1, none⟩) (Kd.R_far (p := ⟨gb579, 0, none⟩) (Kd.R_types HO574.out BK579.out (by decide)) (fun _ hk => hk.2) (.slice Ao93 t569.length co93)) (fun _ hk => hk.2) (.slice Ao98 t572.length co98)) (fun _ hk => hk.2) (.slice Ao99 t575.length co99)) (fun _ h_ => h_.1)))); (case side4 => exact (Kd.R_reads' HO574.out).2.1); (case side5 => refine (Kd.R_reads' (e := 69) (base := w.heap.size) (ok := fun k_ => ((True ∧ some k_ ≠ (.slice Ao23 t521.length co23 : Value).ownBlock) ∧ some k_ ≠ (.slice Ao30 t531.length co30 : Value).ownBlock)) (n := t575.length) (c := co99) ?_).2.2; exact (by (with_reducible repeat (first | apply Kd.R_alloc | apply Kd.R_drewN | apply Kd.R_drew)); exact (Kd.R_mono (Kd.R_far (p := ⟨gb579, 2, none⟩) (Kd.R_far (p := ⟨gb579, 1, none⟩) (Kd.R_far (p := ⟨gb579, 0, none⟩) (Kd.R_types HO577.out BK579.out (by decide)) (fun _ hk => hk.2) (.slice Ao93 t569.length co93)) (fun _ hk => hk.2) (.slice Ao98 t572.length co98)) (fun _ hk => hk.2) (.slice Ao99 t575.length co99)) (fun _ h_ => h_.1)))); (case side6 => exact (Kd.R_reads' HO577.out).2.1); rintro e w100 ⟨v582, v585, v588, rfl, ho0, ho1, ho2, hb⟩; refine ⟨_, rfl, ?_⟩; have n0_ := mkA (Kd.V_mono (Kd.V_told (Kd.V_told (Kd.V_told (Kd.V_old (by (with_reducible repeat (first | apply Kd.V_alloc | apply Kd.V_drewN | apply Kd.V_drew)); exact (Kd.V_mono (Kd.V_far (p := ⟨gb579, 2, none⟩) (Kd.V_far (p := ⟨gb579, 1, none⟩) (Kd.V_far (p := ⟨gb579, 0, none⟩) (Kd.V_mono HO_525000.out (fun k_ hk => (⟨hk, hk.2⟩ : _ ∧ k_ ≠ gb579))) (fun _ hk => hk.2) (.slice Ao93 t569.length co93)) (fun _ hk => hk.2) (.slice Ao98 t572.length co98)) (fun _ hk => hk.2) (.slice Ao99 t575.length co99)) (fun _ h_ => h_.1))) hb) (Kd.R_base ho0)) (Kd.R_base ho1)) (Kd.R_base ho2)) (fun _ h_ => h_.1)); have n1_ := mkA (Kd.V_mono (Kd.V_told (Kd.V_told (Kd.V_told (Kd.V_old (by (with_reducible repeat (first | apply Kd.V_alloc | apply Kd.V_drewN | apply Kd.V_drew)); exact (Kd.V_mono (Kd.V_far (p := ⟨gb579, 2, none⟩) (Kd.V_far (p := ⟨gb579, 1, none⟩) (Kd.V_far (p := ⟨gb579, 0, none⟩) (Kd.V_mono HO_525001.out (fun k_ hk => (⟨hk, hk.2⟩ : _ ∧ k_ ≠ gb579))) (fun _ hk => hk.2) (.slice Ao93 t569.length co93)) (fun _ hk => hk.2) (.slice Ao98 t572.length co98)) (fun _ hk => hk.2) (.slice Ao99 t575.length co99)) (fun _ h_ => h_.1))) hb) (Kd.R_base ho0)) (Kd.R_base ho1)) (Kd.R_base ho2)) (fun _ h_ => h_.1)); have n2_ := mkA (Kd.R_elder' (by (with_reducible repeat (first | apply Kd.R_alloc | apply Kd.R_drewN | apply Kd.R_drew)); exact (Kd.R_mono (Kd.R_far (p := ⟨gb579, 2, none⟩) (Kd.R_far (p := ⟨gb579, 1, none⟩) (Kd.R_far (p := ⟨gb579, 0, none⟩) (Kd.R_types HO_525002.out BK579.out (by decide)) (fun _ hk => hk.2) (.slice Ao93 t569.length co93)) (fun _ hk => hk.2) (.slice Ao98 t572.length co98)) (fun _ hk => hk.2) (.slice Ao99 t575.length co99)) (fun _ h_ => h_.1))) (Kd.R_base ho2) hb); have n3_ := mkA (Kd.R_mono (Kd.R_told (Kd.R_told (Kd.R_old (by (with_reducible repeat (first | apply Kd.R_alloc | apply Kd.R_drewN | apply Kd.R_drew)); exact (Kd.R_mono (Kd.R_far (p := ⟨gb579, 2, none⟩) (Kd.R_far (p := ⟨gb579, 1, none⟩) (Kd.R_far (p := ⟨gb579, 0, none⟩) (Kd.R_types HO_535000.out BK579.out (by decide)) (fun _ hk => hk.2) (.slice Ao93 t569.length co93)) (fun _ hk => hk.2) (.slice Ao98 t572.length co98)) (fun _ hk => hk.2) (.slice Ao99 t575.length co99)) (fun _ h_ => h_.1))) hb) (Kd.R_base ho0)) (Kd.R_base ho1)) (fun _ h_ => h_.1)); have n4_ := mkA (Kd.R_mono (Kd.R_told (Kd.R_told (Kd.R_old (by (with_reducible repeat (first | apply Kd.R_alloc | apply Kd.R_drewN | apply Kd.R_drew)); exact (Kd.R_mono (Kd.R_far (p := ⟨gb579, 2, none⟩) (Kd.R_far (p := ⟨gb579, 1, none⟩) (Kd.R_far (p := ⟨gb579, 0, none⟩) (Kd.R_types HO_535001.out BK579.out (by decide)) (fun _ hk => hk.2) (.slice Ao93 t569.length co93)) (fun _ hk => hk.2) (.slice Ao98 t572.length co98)) (fun _ hk => hk.2) (.slice Ao99 t575.length co99)) (fun _ h_ => h_.1))) hb) (Kd.R_base ho0)) (Kd.R_base ho1)) (fun _ h_ => h_.1)); have n5_ := mkA (Kd.R_elder' (by (with_reducible repeat (first | apply Kd.R_alloc | apply Kd.R_drewN | apply Kd.R_drew)); exact (Kd.R_mono (Kd.R_far (p := ⟨gb579, 2, none⟩) (Kd.R_far (p := ⟨gb579, 1, none⟩) (Kd.R_far (p := ⟨gb579, 0, none⟩) (Kd.R_types HO_535002.out BK579.out (by decide)) (fun _ hk => hk.2) (.slice Ao93 t569.length co93)) (fun _ hk => hk.2) (.slice Ao98 t572.length co98)) (fun _ hk => hk.2) (.slice Ao99 t575.length co99)) (fun _ h_ => h_.1))) (Kd.R_base ho2) hb); have n6_ := mkA (Kd.R_mono (Kd.R_told (Kd.R_told (Kd.R_old (by (with_reducible repeat (first | apply Kd.R_alloc | apply Kd.R_drewN | apply Kd.R_drew)); exact (Kd.R_mono (Kd.R_far (p := ⟨gb579, 2, none⟩) (Kd.R_far (p := ⟨gb579, 1, none⟩) (Kd.R_far (p := ⟨gb579, 0, none⟩) (Kd.R_types HO571.out BK579.out (by decide)) (fun _ hk => hk.2) (.slice Ao93 t569.length co93)) (fun _ hk => hk.2) (.slice Ao98 t572.length co98)) (fun _ hk => hk.2) (.slice Ao99 t575.length co99)) (fun _ h_ => h_.1))) hb) (Kd.R_base ho0)) (Kd.R_base ho1)) (fun _ h_ => h_.1)); have n7_ := mkA (Kd.R_mono (Kd.R_told (Kd.R_told (Kd.R_old (by (with_reducible repeat (first | apply Kd.R_alloc | apply Kd.R_drewN | apply Kd.R_drew)); exact (Kd.R_mono (Kd.R_far (p := ⟨gb579, 2, none⟩) (Kd.R_far (p := ⟨gb579, 1, none⟩) (Kd.R_far (p := ⟨gb579, 0, none⟩) (Kd.R_types HO574.out BK579.out (by decide)) (fun _ hk => hk.2) (.slice Ao93 t569.length co93)) (fun _ hk => hk.2) (.slice Ao98 t572.length co98)) (fun _ hk => hk.2) (.slice Ao99 t575.length co99)) (fun _ h_ => h_.1))) hb) (Kd.R_base ho0)) (Kd.R_base ho1)) (fun _ h_ => h_.1)); have n8_ := mkA (Kd.R_elder' (by (with_reducible repeat (first | apply Kd.R_alloc | apply Kd.R_drewN | apply Kd.R_drew)); exact (Kd.R_mono (Kd.R_far (p := ⟨gb579, 2, none⟩) (Kd.R_far (p := ⟨gb579, 1, none⟩) (Kd.R_far (p := ⟨gb579, 0, none⟩) (Kd.R_types HO577.out BK579.out (by decide)) (fun _ hk => hk.2) (.slice Ao93 t569.length co93)) (fun _ hk => hk.2) (.slice Ao98 t572.length co98)) (fun _ hk => hk.2) (.slice Ao99 t575.length co99)) (fun _ h_ => h_.1))) (Kd.R_base ho2) hb); have n9_ := mkA (Kd.R_lower (Kd.R_newB (Kd.R_new' (Kd.R_new' (Kd.R_new' (Kd.R_new' ho0 (Kd.R_lt (by (with_reducible repeat (first | apply Kd.R_alloc | apply Kd.R_drewN | apply Kd.R_drew)); exact (Kd.R_mono (Kd.R_far (p := ⟨gb579, 2, none⟩) (Kd.R_far (p := ⟨gb579, 1, none⟩) (Kd.R_far (p := ⟨gb579, 0, none⟩) (Kd.R_types HO_535000.out BK579.out (by decide)) (fun _ hk => hk.2) (.slice Ao93 t569.length co93)) (fun _ hk => hk.2) (.slice Ao98 t572.length co98)) (fun _ hk => hk.2) (.slice Ao99 t575.length co99)) (fun _ h_ => h_.1))))) (Kd.R_lt (by (with_reducible repeat (first | apply Kd.R_alloc | apply Kd.R_drewN | apply Kd.R_drew)); exact (Kd.R_mono (Kd.R_far (p := ⟨gb579, 2, none⟩) (Kd.R_far (p := ⟨gb579, 1, none⟩) (Kd.R_far (p := ⟨gb579, 0, none⟩) (Kd.R_types HO_535001.out BK579.out (by decide)) (fun _ hk => hk.2) (.slice Ao93 t569.length co93)) (fun _ hk => hk.2) (.slice Ao98 t572.length co98)) (fun _ hk => hk.2) (.slice Ao99 t575.length co99)) (fun _ h_ => h_.1))))) (Kd.R_lt (by (with_reducible repeat (first | apply Kd.R_alloc | apply Kd.R_drewN | apply Kd.R_drew)); exact (Kd.R_mono (Kd.R_far (p := ⟨gb579, 2, none⟩) (Kd.R_far (p := ⟨gb579, 1, none⟩) (Kd.R_far (p := ⟨gb579, 0, none⟩) (Kd.R_types HO571.out BK579.out (by decide)) (fun _ hk => hk.2) (.slice Ao93 t569.length co93)) (fun _ hk => hk.2) (.slice Ao98 t572.length co98)) (fun _ hk => hk.2) (.slice Ao99 t575.length co99)) (fun _ h_ => h_.1))))) (Kd.R_lt (by (with_reducible repeat (first | apply Kd.R_alloc | apply Kd.R_drewN | apply Kd.R_drew)); exact (Kd.R_mono (Kd.R_far (p := ⟨gb579, 2, none⟩) (Kd.R_far (p := ⟨gb579, 1, none⟩) (Kd.R_far (p := ⟨gb579, 0, none⟩) (Kd.R_types HO574.out BK579.out (by decide)) (fun _ hk => hk.2) (.slice Ao93 t569.length co93)) (fun _ hk => hk.2) (.slice Ao98 t572.length co98)) (fun _ hk => hk.2) (.slice Ao99 t575.length co99)) (fun _ h_ => h_.1))))) (g := gb568) (o := .cells #[.string ((rd_T77 t525 0).f0), .int .i64 ((rd_T77 t525 0).f1)] 77 (0, 0)) (by (iterate 3 ((with_reducible repeat (first | refine blk_drewN ?_ _ | refine blk_drew ?_ | refine blk_alloc ?_ _)); refine blk_far ?_ NB568_579.out _)); (with_reducible repeat (first | refine blk_drewN ?_ _ | refine blk_drew ?_ | refine blk_alloc ?_ _)); exact BK568.out)) (below_size (below_y HB.out))); have n10_ := mkA (Kd.R_lower (Kd.R_newB (Kd.R_new' (Kd.R_new' (Kd.R_new' (Kd.R_new' ho1 (Kd.R_lt (by (with_reducible repeat (first | apply Kd.R_alloc | apply Kd.R_drewN | apply Kd.R_drew)); exact (Kd.R_mono (Kd.R_far (p := ⟨gb579, 2, none⟩) (Kd.R_far (p := ⟨gb579, 1, none⟩) (Kd.R_far (p := ⟨gb579, 0, none⟩) (Kd.R_types HO_535000.out BK579.out (by decide)) (fun _ hk => hk.2) (.slice Ao93 t569.length co93)) (fun _ hk => hk.2) (.slice Ao98 t572.length co98)) (fun _ hk => hk.2) (.slice Ao99 t575.length co99)) (fun _ h_ => h_.1))))) (Kd.R_lt (by (with_reducible repeat (first | apply Kd.R_alloc | apply Kd.R_drewN | apply Kd.R_drew)); exact (Kd.R_mono (Kd.R_far (p := ⟨gb579, 2, none⟩) (Kd.R_far (p := ⟨gb579, 1, none⟩) (Kd.R_far (p := ⟨gb579, 0, none⟩) (Kd.R_types HO_535001.out BK579.out (by decide)) (fun _ hk => hk.2) (.slice Ao93 t569.length co93)) (fun _ hk => hk.2) (.slice Ao98 t572.length co98)) (fun _ hk => hk.2) (.slice Ao99 t575.length co99)) (fun _ h_ => h_.1))))) (Kd.R_lt (by (with_reducible repeat (first | apply Kd.R_alloc | apply Kd.R_drewN | apply Kd.R_drew)); exact (Kd.R_mono (Kd.R_far (p := ⟨gb579, 2, none⟩) (Kd.R_far (p := ⟨gb579, 1, none⟩) (Kd.R_far (p := ⟨gb579, 0, none⟩) (Kd.R_types HO571.out BK579.out (by decide)) (fun _ hk => hk.2) (.slice Ao93 t569.length co93)) (fun _ hk => hk.2) (.slice Ao98 t572.length co98)) (fun _ hk => hk.2) (.slice Ao99 t575.length co99)) (fun _ h_ => h_.1))))) (Kd.R_lt (by (with_reducible repeat (first | apply Kd.R_alloc | apply Kd.R_drewN | apply Kd.R_drew)); exact (Kd.R_mono (Kd.R_far (p := ⟨gb579, 2, none⟩) (Kd.R_far (p := ⟨gb579, 1, none⟩) (Kd.R_far (p := ⟨gb579, 0, none⟩) (Kd.R_types HO574.out BK579.out (by decide)) (fun _ hk => hk.2) (.slice Ao93 t569.length co93)) (fun _ hk => hk.2) (.slice Ao98 t572.length co98)) (fun _ hk => hk.2) (.slice Ao99 t575.length co99)) (fun _ h_ => h_.1))))) (g := gb568) (o := .cells #[.string ((rd_T77 t525 0).f0), .int .i64 ((rd_T77 t525 0).f1)] 77 (0, 0)) (by (iterate 3 ((with_reducible repeat (first | refine blk_drewN ?_ _ | refine blk_drew ?_ | refine blk_alloc ?_ _)); refine blk_far ?_ NB568_579.out _)); (with_reducible repeat (first | refine blk_drewN ?_ _ | refine blk_drew ?_ | refine blk_alloc ?_ _)); exact BK568.out)) (below_size (below_y HB.out))); have n11_ := mkA (Kd.R_lower (Kd.R_new' (Kd.R_new' (Kd.R_new' ho2 (Kd.R_lt (by (with_reducible repeat (first | apply Kd.R_alloc | apply Kd.R_drewN | apply Kd.R_drew)); exact (Kd.R_mono (Kd.R_far (p := ⟨gb579, 2, none⟩) (Kd.R_far (p := ⟨gb579, 1, none⟩) (Kd.R_far (p := ⟨gb579, 0, none⟩) (Kd.R_types HO_525002.out BK579.out (by decide)) (fun _ hk => hk.2) (.slice Ao93 t569.length co93)) (fun _ hk => hk.2) (.slice Ao98 t572.length co98)) (fun _ hk => hk.2) (.slice Ao99 t575.length co99)) (fun _ h_ => h_.1))))) (Kd.R_lt (by (with_reducible repeat (first | apply Kd.R_alloc | apply Kd.R_drewN | apply Kd.R_drew)); exact (Kd.R_mono (Kd.R_far (p := ⟨gb579, 2, none⟩) (Kd.R_far (p := ⟨gb579, 1, none⟩) (Kd.R_far (p := ⟨gb579, 0, none⟩) (Kd.R_types HO_535002.out BK579.out (by decide)) (fun _ hk => hk.2) (.slice Ao93 t569.length co93)) (fun _ hk => hk.2) (.slice Ao98 t572.length co98)) (fun _ hk => hk.2) (.slice Ao99 t575.length co99)) (fun _ h_ => h_.1))))) (Kd.R_lt (by (with_reducible repeat (first | apply Kd.R_alloc | apply Kd.R_drewN | apply Kd.R_drew)); exact (Kd.R_mono (Kd.R_far (p := ⟨gb579, 2, none⟩) (Kd.R_far (p := ⟨gb579, 1, none⟩) (Kd.R_far (p := ⟨gb579, 0, none⟩) (Kd.R_types HO577.out BK579.out (by decide)) (fun _ hk => hk.2) (.slice Ao93 t569.length co93)) (fun _ hk => hk.2) (.slice Ao98 t572.length co98)) (fun _ hk => hk.2) (.slice Ao99 t575.length co99)) (fun _ h_ => h_.1))))) (below_size (below_y HB.out))); have n12_ := mkA (blk_below (g := gb524) (o := .cells #[.slice Ao20 t515.length co20, .slice Ao22 t518.length co22, .slice Ao23 t521.length co23] 67 (0, 0)) (by (iterate 3 ((with_reducible repeat (first | refine blk_drewN ?_ _ | refine blk_drew ?_ | refine blk_alloc ?_ _)); refine blk_far ?_ NB524_579.out _)); (with_reducible repeat (first | refine blk_drewN ?_ _ | refine blk_drew ?_ | refine blk_alloc ?_ _)); exact BK524.out) hb); have n13_ := mkA (blk_below (g := gb534) (o := .cells #[.slice (some ad567) t525.length co26, .slice Ao29 t528.length co29, .slice Ao30 t531.length co30] 67 (0, 0)) (by (iterate 3 ((with_reducible repeat (first | refine blk_drewN ?_ _ | refine blk_drew ?_ | refine blk_alloc ?_ _)); refine blk_far ?_ NB534_579.out _)); (with_reducible repeat (first | refine blk_drewN ?_ _ | refine blk_drew ?_ | refine blk_alloc ?_ _)); exact BK534.out) hb); have n14_ := mkA (blk_below (g := gb568) (o := .cells #[.string ((rd_T77 t525 0).f0), .int .i64 ((rd_T77 t525 0).f1)] 77 (0, 0)) (by (iterate 3 ((with_reducible repeat (first | refine blk_drewN ?_ _ | refine blk_drew ?_ | refine blk_alloc ?_ _)); refine blk_far ?_ NB568_579.out _)); (with_reducible repeat (first | refine blk_drewN ?_ _ | refine blk_drew ?_ | refine blk_alloc ?_ _)); exact BK568.out) hb); have n15_ := mkA (blk_below (g := gb579) (o := .cells #[.slice Ao93 t569.length co93, .slice Ao98 t572.length co98, .slice Ao99 t575.length co99] 67 (0, 0)) (by (with_reducible repeat (first | refine blk_drewN ?_ _ | refine blk_drew ?_ | refine blk_alloc ?_ _)); refine blk_put (cs := #[.slice Ao93 t569.length co93, .slice Ao98 t572.length co98, .slice none 0 0]) ?_ 2 _ rfl; (with_reducible repeat (first | refine blk_drewN ?_ _ | refine blk_drew ?_ | refine blk_alloc ?_ _)); refine blk_put (cs := #[.slice Ao93 t569.length co93, .slice none 0 0, .slice none 0 0]) ?_ 1 _ rfl; (with_reducible repeat (first | refine blk_drewN ?_ _ | refine blk_drew ?_ | refine blk_alloc ?_ _)); refine blk_put (cs := #[.slice none 0 0, .slice none 0 0, .slice none 0 0]) ?_ 0 _ rfl; (with_reducible repeat (first | refine blk_drewN ?_ _ | refine blk_drew ?_ | refine blk_alloc ?_ _)); exact BK579.out) hb); have n16_ := mkA (below_step (below_y HB.out) hb); clear HO_525000; clear HO_525001; clear HO_525002; clear HO_535000; clear HO_535001; clear HO_535002; clear HO571; clear HO574; clear HO577; clear BK524; clear BK534; clear BK568; clear BK579; clear HB; have HO_525000 := n0_; have HO_525001 := n1_; have HO_525002 := n2_; have HO_535000 := n3_; have HO_535001 := n4_; have HO_535002 := n5_; have HO571 := n6_; have HO574 := n7_; have HO577 := n8_; have HO583 := n9_; have HO586 := n10_; have HO589 := n11_; have BK524 := n12_; have BK534 := n13_; have BK568 := n14_; have BK579 := n15_; have HB := n16_; clear n0_ n1_ n2_ n3_ n4_ n5_ n6_ n7_ n8_ n9_ n10_ n11_ n12_ n13_ n14_ n15_ n16_; (try clear hb); (try clear hb2); (try clear hk); (try clear hi); (try clear ho0); (try clear ho1); (try clear ho2)) | ((with_reducible refine gate_dst (N := 13) rfl ?_); (try (refine gate_guard (by rfl) ?_; dsimp only)); refine box_event ?hg (N := 13) ?hd (cs := #[.slice none 0 0, .slice none 0 0, .slice none 0 0]) (t := 67) ?hr ?_; (case hd => rfl); (case hg => rfl); (case hr => first | (go_simp; done) | (go_simp; rfl)); intro gb590 hg w101 hbox hb; have n0_ := mkA (Kd.V_below (Kd.V_elderB (Kd.V_y HO_525000.out) gb590 (Nat.le_of_eq hg.symm)) hb); have n1_ := mkA (Kd.V_below (Kd.V_elderB (Kd.V_y HO_525001.out) gb590 (Nat.le_of_eq hg.symm)) hb); have n2_ := mkA (Kd.R_below (Kd.R_y HO_525002.out) hb); have n3_ := mkA (Kd.R_below (Kd.R_y HO_535000.out) hb); have n4_ := mkA (Kd.R_below (Kd.R_y HO_535001.out) hb); have n5_ := mkA (Kd.R_below (Kd.R_y HO_535002.out) hb); have n6_ := mkA (Kd.R_below (Kd.R_y HO571.out) hb); have n7_ := mkA (Kd.R_below (Kd.R_y HO574.out) hb); have n8_ := mkA (Kd.R_below (Kd.R_y HO577.out) hb); have n9_ := mkA (Kd.R_below (Kd.R_y HO583.out) hb); have n10_ := mkA (Kd.R_below (Kd.R_y HO586.out) hb); have n11_ := mkA (Kd.R_below (Kd.R_y HO589.out) hb); have n12_ := mkA (blk_below (blk_y BK524.out) hb); have n13_ := mkA (blk_below (blk_y BK534.out) hb); have n14_ := mkA (blk_below (blk_y BK568.out) hb); have n15_ := mkA (blk_below (blk_y BK579.out) hb); have n16_ := mkA (below_step (below_y HB.out) hb); have n17_ := mkA (hbox); have n18_ := mkA ((gz hg HB.out : w.heap.size ≤ gb590)); have n19_ := mkA ((gz hg HB.out : w.heap.size ≤ gb590)); have n20_ := mkA ((gn hg BK524.out : gb524 ≠ gb590)); have n21_ := mkA ((gm hg BK524.out : gb590 ≠ gb524)); have n22_ := mkA ((gn hg BK534.out : gb534 ≠ gb590)); have n23_ := mkA ((gm hg BK534.out : gb590 ≠ gb534)); have n24_ := mkA ((gn hg BK568.out : gb568 ≠ gb590)); have n25_ := mkA ((gm hg BK568.out : gb590 ≠ gb568)); have n26_ := mkA ((gn hg BK579.out : gb579 ≠ gb590)); have n27_ := mkA ((gm hg BK579.out : gb590 ≠ gb579)); clear HO_525000; clear HO_525001; clear HO_525002; clear HO_535000; clear HO_535001; clear HO_535002; clear HO571; clear HO574; clear HO577; clear HO583; clear HO586; clear HO589; clear BK524; clear BK534; clear BK568; clear BK579; clear HB; have HO_525000 := n0_; have HO_525001 := n1_; have HO_525002 := n2_; have HO_535000 := n3_; have HO_535001 := n4_; have HO_535002 := n5_; have HO571 := n6_; have HO574 := n7_; have HO577 := n8_; have HO583 := n9_; have HO586 := n10_; have HO589 := n11_; have BK524 := n12_; have BK534 := n13_; have BK568 := n14_; have BK579 := n15_; have HB := n16_; have BK590 := n17_; have GW590 := n18_; have GE590 := n19_; have NB524_590 := n20_; have NB590_524 := n21_; have NB534_590 := n22_; have NB590_534 := n23_; have NB568_590 := n24_; have NB590_568 := n25_; have NB579_590 := n26_; have NB590_579 := n27_; clear n0_ n1_ n2_ n3_ n4_ n5_ n6_ n7_ n8_ n9_ n10_ n11_ n12_ n13_ n14_ n15_ n16_ n17_ n18_ n19_ n20_ n21_ n22_ n23_ n24_ n25_ n26_ n27_; clear hb hbox hg; obtain ⟨Ao102, co102, eo102⟩ := Kd.R_slice HO583.out; subst eo102; have hnb103 := NB590_524.out; have hnc103 := NB524_590.out; have hnb104 := NB590_534.out; have hnc104 := NB534_590.out; have hnb105 := NB590_568.out; have hnc105 := NB568_590.out; have hnb106 := NB590_579.out; have hnc106 := NB579_590.out; have hcz107_0 := bc BK590.out 0 (.slice none 0 0) rfl; have hcz107_1 := bc BK590.out 1 (.slice none 0 0) rfl; have hcz107_2 := bc BK590.out 2 (.slice none 0 0) rfl; have hfz107_0 := blk_frozen BK590.out 0; have hfz107_1 := blk_frozen BK590.out 1; have hfz107_2 := blk_frozen BK590.out 2; obtain ⟨Ao108, co108, eo108⟩ := Kd.R_slice HO586.out; subst eo108; obtain ⟨Ao109, co109, eo109⟩ := Kd.R_slice HO589.out; subst eo109; have hcz110_0 := bc BK568.out 0 (.string ((rd_T77 t525 0).f0)) rfl; have hcz110_1 := bc BK568.out 1 (.int .i64 ((rd_T77 t525 0).f1)) rfl; have hfz110_0 := blk_frozen BK568.out 0; have hfz110_1 := blk_frozen BK568.out 1) | ((with_reducible refine gate_callee (f := 44) rfl ?_); refine goesL_ (some 116) rfl rfl Try.func44 (by kernel_rfl) rfl #[.agg #[.slice Ao102 t581.length co102, .slice Ao108 t584.length co108, .slice Ao109 t587.length co109], .string ((rd_T77 t525 0).f0)] rfl ca ?_; (with_reducible refine (dir_Find.calls _ _ t581 _ _ t584 _ _ t587 ((rd_T77 t525 0).f0) t591 _ _ ?side1 ?side2 ?side3 ?side4 ?side5 ?side6 A75.out).mono ?_); (case side1 => refine (Kd.R_reads' (e := 77) (base := w.heap.size) (ok := fun k_ => (((((some k_ ≠ (.slice Ao108 t584.length co108 : Value).ownBlock ∧ some k_ ≠ (.slice (some ad567) t525.length co26 : Value).ownBlock) ∧ some k_ ≠ (.slice Ao29 t528.length co29 : Value).ownBlock) ∧ some k_ ≠ (.slice Ao93 t569.length co93 : Value).ownBlock) ∧ some k_ ≠ (.slice Ao98 t572.length co98 : Value).ownBlock) ∧ k_ ≠ gb568)) (n := t581.length) (c := co102) ?_).2.2; exact (by (with_reducible repeat (first | apply Kd.R_alloc | apply Kd.R_drewN | apply Kd.R_drew)); exact (Kd.R_mono (Kd.R_far (p := ⟨gb590, 2, none⟩) (Kd.R_far (p := ⟨gb590, 1, none⟩) (Kd.R_far (p := ⟨gb590, 0, none⟩) (Kd.R_types HO583.out BK590.out (by decide)) (fun _ hk => hk.2) (.slice Ao102 t581.length co102)) (fun _ hk => hk.2) (.slice Ao108 t584.length co108)) (fun _ hk => hk.2) (.slice Ao109 t587.length co109)) (fun _ h_ => h_.1)))); (case side2 => exact (Kd.R_reads' HO583.out).2.1); (case side3 => refine (Kd.R_reads' (e := 77) (base := w.heap.size) (ok := fun k_ => (((((some k_ ≠ (.slice Ao102 t581.length co102 : Value).ownBlock ∧ some k_ ≠ (.slice (some ad567) t525.length co26 : Value).ownBlock) ∧ some k_ ≠ (.slice Ao29 t528.length co29 : Value).ownBlock) ∧ some k_ ≠ (.slice Ao93 t569.length co93 : Value).ownBlock) ∧ some k_ ≠ (.slice Ao98 t572.length co98 : Value).ownBlock) ∧ k_ ≠ gb568)) (n := t584.length) (c := co108) ?_).2.2; exact (by (with_reducible repeat (first | apply Kd.R_alloc | apply Kd.R_drewN | apply Kd.R_drew)); exact (Kd.R_mono (Kd.R_far (p := ⟨gb590, 2, none⟩) (Kd.R_far (p := ⟨gb590, 1, none⟩) (Kd.R_far (p := ⟨gb590, 0, none⟩) (Kd.R_types HO586.out BK590.out (by decide)) (fun _ hk => hk.2) (.slice Ao102 t581.length co102)) (fun _ hk => hk.2) (.slice Ao108 t584.length co108)) (fun _ hk => hk.2) (.slice Ao109 t587.length co109)) (fun _ h_ => h_.1)))); (case side4 => exact (Kd.R_reads' HO586.out).2.1); (case side5 => refine (Kd.R_reads' (e := 69) (base := w.heap.size) (ok := fun k_ => (((True ∧ some k_ ≠ (.slice Ao23 t521.length co23 : Value).ownBlock) ∧ some k_ ≠ (.slice Ao30 t531.length co30 : Value).ownBlock) ∧ some k_ ≠ (.slice Ao99 t575.length co99 : Value).ownBlock)) (n := t587.length) (c := co109) ?_).2.2; exact (by (with_reducible repeat (first | apply Kd.R_alloc | apply Kd.R_drewN | apply Kd.R_drew)); exact (Kd.R_mono (Kd.R_far (p := ⟨gb590, 2, none⟩) (Kd.R_far (p := ⟨gb590, 1, none⟩) (Kd.R_far (p := ⟨gb590, 0, none⟩) (Kd.R_types HO589.out BK590.out (by decide)) (fun _ hk => hk.2) (.slice Ao102 t581.length co102)) (fun _ hk => hk.2) (.slice Ao108 t584.length co108)) (fun _ hk => hk.2) (.slice Ao109 t587.length co109)) (fun _ h_ => h_.1)))); (case side6 => exact (Kd.R_reads' HO589.out).2.1); rintro e w111 ⟨rfl, hb⟩; refine ⟨_, rfl, ?_⟩; have n0_ := mkA (Kd.V_below (by (with_reducible repeat (first | apply Kd.V_alloc | apply Kd.V_drewN | apply Kd.V_drew)); exact (Kd.V_mono (Kd.V_far (p := ⟨gb590, 2, none⟩) (Kd.V_far (p := ⟨gb590, 1, none⟩) (Kd.V_far (p := ⟨gb590, 0, none⟩) (Kd.V_mono HO_525000.out (fun k_ hk => (⟨hk, hk.2⟩ : _ ∧ k_ ≠ gb590))) (fun _ hk => hk.2) (.slice Ao102 t581.length co102)) (fun _ hk => hk.2) (.slice Ao108 t584.length co108)) (fun _ hk => hk.2) (.slice Ao109 t587.length co109)) (fun _ h_ => h_.1))) hb); have n1_ := mkA (Kd.V_below (by (with_reducible repeat (first | apply Kd.V_alloc | apply Kd.V_drewN | apply Kd.V_drew)); exact (Kd.V_mono (Kd.V_far (p := ⟨gb590, 2, none⟩) (Kd.V_far (p := ⟨gb590, 1, none⟩) (Kd.V_far (p := ⟨gb590, 0, none⟩) (Kd.V_mono HO_525001.out (fun k_ hk => (⟨hk, hk.2⟩ : _ ∧ k_ ≠ gb590))) (fun _ hk => hk.2) (.slice Ao102 t581.length co102)) (fun _ hk => hk.2) (.slice Ao108 t584.length co108)) (fun _ hk => hk.2) (.slice Ao109 t587.length co109)) (fun _ h_ => h_.1))) hb); have n2_ := mkA (Kd.R_below (by (with_reducible repeat (first | apply Kd.R_alloc | apply Kd.R_drewN | apply Kd.R_drew)); exact (Kd.R_mono (Kd.R_far (p := ⟨gb590, 2, none⟩) (Kd.R_far (p := ⟨gb590, 1, none⟩) (Kd.R_far (p := ⟨gb590, 0, none⟩) (Kd.R_types HO_525002.out BK590.out (by decide)) (fun _ hk => hk.2) (.slice Ao102 t581.length co102)) (fun _ hk => hk.2) (.slice Ao108 t584.length co108)) (fun _ hk => hk.2) (.slice Ao109 t587.length co109)) (fun _ h_ => h_.1))) hb); have n3_ := mkA (Kd.R_below (by (with_reducible repeat (first | apply Kd.R_alloc | apply Kd.R_drewN | apply Kd.R_drew)); exact (Kd.R_mono (Kd.R_far (p := ⟨gb590, 2, none⟩) (Kd.R_far (p := ⟨gb590, 1, none⟩) (Kd.R_far (p := ⟨gb590, 0, none⟩) (Kd.R_types HO_535000.out BK590.out (by decide)) (fun _ hk => hk.2) (.slice Ao102 t581.length co102)) (fun _ hk => hk.2) (.slice Ao108 t584.length co108)) (fun _ hk => hk.2) (.slice Ao109 t587.length co109)) (fun _ h_ => h_.1))) hb); have n4_ := mkA (Kd.R_below (by (with_reducible repeat (first | apply Kd.R_alloc | apply Kd.R_drewN | apply Kd.R_drew)); exact (Kd.R_mono (Kd.R_far (p := ⟨gb590, 2, none⟩) (Kd.R_far (p := ⟨gb590, 1, none⟩) (Kd.R_far (p := ⟨gb590, 0, none⟩) (Kd.R_types HO_535001.out BK590.out (by decide)) (fun _ hk => hk.2) (.slice Ao102 t581.length co102)) (fun _ hk => hk.2) (.slice Ao108 t584.length co108)) (fun _ hk => hk.2) (.slice Ao109 t587.length co109)) (fun _ h_ => h_.1))) hb); have n5_ := mkA (Kd.R_below (by (with_reducible repeat (first | apply Kd.R_alloc | apply Kd.R_drewN | apply Kd.R_drew)); exact (Kd.R_mono (Kd.R_far (p := ⟨gb590, 2, none⟩) (Kd.R_far (p := ⟨gb590, 1, none⟩) (Kd.R_far (p := ⟨gb590, 0, none⟩) (Kd.R_types HO_535002.out BK590.out (by decide)) (fun _ hk => hk.2) (.slice Ao102 t581.length co102)) (fun _ hk => hk.2) (.slice Ao108 t584.length co108)) (fun _ hk => hk.2) (.slice Ao109 t587.length co109)) (fun _ h_ => h_.1))) hb); have n6_ := mkA (Kd.R_below (by (with_reducible repeat (first | apply Kd.R_alloc | apply Kd.R_drewN | apply Kd.R_drew)); exact (Kd.R_mono (Kd.R_far (p := ⟨gb590, 2, none⟩) (Kd.R_far (p := ⟨gb590, 1, none⟩) (Kd.R_far (p := ⟨gb590, 0, none⟩) (Kd.R_types HO571.out BK590.out (by decide)) (fun _ hk => hk.2) (.slice Ao102 t581.length co102)) (fun _ hk => hk.2) (.slice Ao108 t584.length co108)) (fun _ hk => hk.2) (.slice Ao109 t587.length co109)) (fun _ h_ => h_.1))) hb); have n7_ := mkA (Kd.R_below (by (with_reducible repeat (first | apply Kd.R_alloc | apply Kd.R_drewN | apply Kd.R_drew)); exact (Kd.R_mono (Kd.R_far (p := ⟨gb590, 2, none⟩) (Kd.R_far (p := ⟨gb590, 1, none⟩) (Kd.R_far (p := ⟨gb590, 0, none⟩) (Kd.R_types HO574.out BK590.out (by decide)) (fun _ hk => hk.2) (.slice Ao102 t581.length co102)) (fun _ hk => hk.2) (.slice Ao108 t584.length co108)) (fun _ hk => hk.2) (.slice Ao109 t587.length co109)) (fun _ h_ => h_.1))) hb); have n8_ := mkA (Kd.R_below (by (with_reducible repeat (first | apply Kd.R_alloc | apply Kd.R_drewN | apply Kd.R_drew)); exact (Kd.R_mono (Kd.R_far (p := ⟨gb590, 2, none⟩) (Kd.R_far (p := ⟨gb590, 1, none⟩) (Kd.R_far (p := ⟨gb590, 0, none⟩) (Kd.R_types HO577.out BK590.out (by decide)) (fun _ hk => hk.2) (.slice Ao102 t581.length co102)) (fun _ hk => hk.2) (.slice Ao108 t584.length co108)) (fun _ hk => hk.2) (.slice Ao109 t587.length co109)) (fun _ h_ => h_.1))) hb); have n9_ := mkA (Kd.R_below (by (with_reducible repeat (first | apply Kd.R_alloc | apply Kd.R_drewN | apply Kd.R_drew)); exact (Kd.R_mono (Kd.R_far (p := ⟨gb590, 2, none⟩) (Kd.R_far (p := ⟨gb590, 1, none⟩) (Kd.R_far (p := ⟨gb590, 0, none⟩) (Kd.R_types HO583.out BK590.out (by decide)) (fun _ hk => hk.2) (.slice Ao102 t581.length co102)) (fun _ hk => hk.2) (.slice Ao108 t584.length co108)) (fun _ hk => hk.2) (.slice Ao109 t587.length co109)) (fun _ h_ => h_.1))) hb); have n10_ := mkA (Kd.R_below (by (with_reducible repeat (first | apply Kd.R_alloc | apply Kd.R_drewN | apply Kd.R_drew)); exact (Kd.R_mono (Kd.R_far (p := ⟨gb590, 2, none⟩) (Kd.R_far (p := ⟨gb590, 1, none⟩) (Kd.R_far (p := ⟨gb590, 0, none⟩) (Kd.R_types HO586.out BK590.out (by decide)) (fun _ hk => hk.2) (.slice Ao102 t581.length co102)) (fun _ hk => hk.2) (.slice Ao108 t584.length co108)) (fun _ hk => hk.2) (.slice Ao109 t587.length co109)) (fun _ h_ => h_.1))) hb); have n11_ := mkA (Kd.R_below (by (with_reducible repeat (first | apply Kd.R_alloc | apply Kd.R_drewN | apply Kd.R_drew)); exact (Kd.R_mono (Kd.R_far (p := ⟨gb590, 2, none⟩) (Kd.R_far (p := ⟨gb590, 1, none⟩) (Kd.R_far (p := ⟨gb590, 0, none⟩) (Kd.R_types HO589.out BK590.out (by decide)) (fun _ hk => hk.2) (.slice Ao102 t581.length co102)) (fun _ hk => hk.2) (.slice Ao108 t584.length co108)) (fun _ hk => hk.2) (.slice Ao109 t587.length co109)) (fun _ h_ => h_.1))) hb); have n12_ := mkA (blk_below (g := gb524) (o := .cells #[.slice Ao20 t515.length co20, .slice Ao22 t518.length co22, .slice Ao23 t521.length co23] 67 (0, 0)) (by (iterate 3 ((with_reducible repeat (first | refine blk_drewN ?_ _ | refine blk_drew ?_ | refine blk_alloc ?_ _)); refine blk_far ?_ NB524_590.out _)); (with_reducible repeat (first | refine blk_drewN ?_ _ | refine blk_drew ?_ | refine blk_alloc ?_ _)); exact BK524.out) hb); have n13_ := mkA (blk_below (g := gb534) (o := .cells #[.slice (some ad567) t525.length co26, .slice Ao29 t528.length co29, .slice Ao30 t531.length co30] 67 (0, 0)) (by (iterate 3 ((with_reducible repeat (first | refine blk_drewN ?_ _ | refine blk_drew ?_ | refine blk_alloc ?_ _)); refine blk_far ?_ NB534_590.out _)); (with_reducible repeat (first | refine blk_drewN ?_ _ | refine blk_drew ?_ | refine blk_alloc ?_ _)); exact BK534.out) hb); have n14_ := mkA (blk_below (g := gb568) (o := .cells #[.string ((rd_T77 t525 0).f0), .int .i64 ((rd_T77 t525 0).f1)] 77 (0, 0)) (by (iterate 3 ((with_reducible repeat (first | refine blk_drewN ?_ _ | refine blk_drew ?_ | refine blk_alloc ?_ _)); refine blk_far ?_ NB568_590.out _)); (with_reducible repeat (first | refine blk_drewN ?_ _ | refine blk_drew ?_ | refine blk_alloc ?_ _)); exact BK568.out) hb); have n15_ := mkA (blk_below (g := gb579) (o := .cells #[.slice Ao93 t569.length co93, .slice Ao98 t572.length co98, .slice Ao99 t575.length co99] 67 (0, 0)) (by (iterate 3 ((with_reducible repeat (first | refine blk_drewN ?_ _ | refine blk_drew ?_ | refine blk_alloc ?_ _)); refine blk_far ?_ NB579_590.out _)); (with_reducible repeat (first | refine blk_drewN ?_ _ | refine blk_drew ?_ | refine blk_alloc ?_ _)); exact BK579.out) hb); have n16_ := mkA (blk_below (g := gb590) (o := .cells #[.slice Ao102 t581.length co102, .slice Ao108 t584.length co108, .slice Ao109 t587.length co109] 67 (0, 0)) (by (with_reducible repeat (first | refine blk_drewN ?_ _ | refine blk_drew ?_ | refine blk_alloc ?_ _)); refine blk_put (cs := #[.slice Ao102 t581.length co102, .slice Ao108 t584.length co108, .slice none 0 0]) ?_ 2 _ rfl; (with_reducible repeat (first | refine blk_drewN ?_ _ | refine blk_drew ?_ | refine blk_alloc ?_ _)); refine blk_put (cs := #[.slice Ao102 t581.length co102, .slice none 0 0, .slice none 0 0]) ?_ 1 _ rfl; (with_reducible repeat (first | refine blk_drewN ?_ _ | refine blk_drew ?_ | refine blk_alloc ?_ _)); refine blk_put (cs := #[.slice none 0 0, .slice none 0 0, .slice none 0 0]) ?_ 0 _ rfl; (with_reducible repeat (first | refine blk_drewN ?_ _ | refine blk_drew ?_ | refine blk_alloc ?_ _)); exact BK590.out) hb); have n17_ := mkA (below_step (below_y HB.out) hb); clear HO_525000; clear HO_525001; clear HO_525002; clear HO_535000; clear HO_535001; clear HO_535002; clear HO571; clear HO574; clear HO577; clear HO583; clear HO586; clear HO589; clear BK524; clear BK534; clear BK568; clear BK579; clear BK590; clear HB; have HO_525000 := n0_; have HO_525001 := n1_; have HO_525002 := n2_; have HO_535000 := n3_; have HO_535001 := n4_; have HO_535002 := n5_; have HO571 := n6_; have HO574 := n7_; have HO577 := n8_; have HO583 := n9_; have HO586 := n10_; have HO589 := n11_; have BK524 := n12_; have BK534 := n13_; have BK568 := n14_; have BK579 := n15_; have BK590 := n16_; have HB := n17_; clear n0_ n1_ n2_ n3_ n4_ n5_ n6_ n7_ n8_ n9_ n10_ n11_ n12_ n13_ n14_ n15_ n16_ n17_; (try clear hb); (try clear hb2); (try clear hk); (try clear hi); have hcz112_0 := bc BK590.out 0 (.slice Ao102 t581.length co102) rfl; have hcz112_1 := bc BK590.out 1 (.slice Ao108 t584.length co108) rfl; have hcz112_2 := bc BK590.out 2 (.slice Ao109 t587.length co109) rfl; have hfz112_0 := blk_frozen BK590.out 0; have hfz112_1 := blk_frozen BK590.out 1; have hfz112_2 := blk_frozen BK590.out 2) | ((with_reducible refine gate_callee (f := 44) rfl ?_); refine goesL_ (some 121) rfl rfl Try.func44 (by kernel_rfl) rfl #[.agg #[.slice Ao102 t581.length co102, .slice Ao108 t584.length co108, .slice Ao109 t587.length co109], .string (⟨#[122, 122]⟩ : ByteArray)] rfl ca ?_; (with_reducible refine (dir_Find.calls _ _ t581 _ _ t584 _ _ t587 (⟨#[122, 122]⟩ : ByteArray) t593 _ _ ?side1 ?side2 ?side3 ?side4 ?side5 ?side6 A76.out).mono ?_); (case side1 => exact Kd.C_y (Kd.R_reads' HO583.out).2.2); (case side2 => exact (Kd.R_reads' HO583.out).2.1); (case side3 => exact Kd.C_y (Kd.R_reads' HO586.out).2.2); (case side4 => exact (Kd.R_reads' HO586.out).2.1); (case side5 => exact Kd.C_y (Kd.R_reads' HO589.out).2.2); (case side6 => exact (Kd.R_reads' HO589.out).2.1); rintro e w113 ⟨rfl, hb⟩; refine ⟨_, rfl, ?_⟩; have n0_ := mkA (Kd.V_below (Kd.V_y HO_525000.out) hb); have n1_ := mkA (Kd.V_below (Kd.V_y HO_525001.out) hb); have n2_ := mkA (Kd.R_below (Kd.R_y HO_525002.out) hb); have n3_ := mkA (Kd.R_below (Kd.R_y HO_535000.out) hb); have n4_ := mkA (Kd.R_below (Kd.R_y HO_535001.out) hb); have n5_ := mkA (Kd.R_below (Kd.R_y HO_535002.out) hb); have n6_ := mkA (Kd.R_below (Kd.R_y HO571.out) hb); have n7_ := mkA (Kd.R_below (Kd.R_y HO574.out) hb); have n8_ := mkA (Kd.R_below (Kd.R_y HO577.out) hb); have n9_ := mkA (Kd.R_below (Kd.R_y HO583.out) hb); have n10_ := mkA (Kd.R_below (Kd.R_y HO586.out) hb); have n11_ := mkA (Kd.R_below (Kd.R_y HO589.out) hb); have n12_ := mkA (blk_below (blk_y BK524.out) hb); have n13_ := mkA (blk_below (blk_y BK534.out) hb); have n14_ := mkA (blk_below (blk_y BK568.out) hb); have n15_ := mkA (blk_below (blk_y BK579.out) hb); have n16_ := mkA (blk_below (blk_y BK590.out) hb); have n17_ := mkA (below_step (below_y HB.out) hb); clear HO_525000; clear HO_525001; clear HO_525002; clear HO_535000; clear HO_535001; clear HO_535002; clear HO571; clear HO574; clear HO577; clear HO583; clear HO586; clear HO589; clear BK524; clear BK534; clear BK568; clear BK579; clear BK590; clear HB; have HO_525000 := n0_; have HO_525001 := n1_; have HO_525002 := n2_; have HO_535000 := n3_; have HO_535001 := n4_; have HO_535002 := n5_; have HO571 := n6_; have HO574 := n7_; have HO577 := n8_; have HO583 := n9_; have HO586 := n10_; have HO589 := n11_; have BK524 := n12_; have BK534 := n13_; have BK568 := n14_; have BK579 := n15_; have BK590 := n16_; have HB := n17_; clear n0_ n1_ n2_ n3_ n4_ n5_ n6_ n7_ n8_ n9_ n10_ n11_ n12_ n13_ n14_ n15_ n16_ n17_; (try clear hb); (try clear hb2); (try clear hk); (try clear hi); have hcz114_0 := bc BK568.out 0 (.string ((rd_T77 t525 0).f0)) rfl; have hcz114_1 := bc BK568.out 1 (.int .i64 ((rd_T77 t525 0).f1)) rfl; have hfz114_0 := blk_frozen BK568.out 0; have hfz114_1 := blk_frozen BK568.out 1; have hcz115_0 := bc BK534.out 0 (.slice (some ad567) t525.length co26) rfl; have hcz115_1 := bc BK534.out 1 (.slice Ao29 t528.length co29) rfl; have hcz115_2 := bc BK534.out 2 (.slice Ao30 t531.length co30) rfl; have hfz115_0 := blk_frozen BK534.out 0; have hfz115_1 := blk_frozen BK534.out 1; have hfz115_2 := blk_frozen BK534.out 2) | (go_at_call 57; (with_reducible refine (newsreellaw10_had.calls _ _ t525 _ _ t528 _ _ t531 t593 t595 _ ?side1 ?side2 ?side3 ?side4 ?side5 ?side6 A81.out).mono ?_); (case side1 => exact Kd.C_y (Kd.R_reads' HO_535000.out).2.2); (case side2 => exact (Kd.R_reads' HO_535000.out).2.1); (case side3 => exact Kd.C_y (Kd.R_reads' HO_535001.out).2.2); (case side4 => exact (Kd.R_reads' HO_535001.out).2.1); (case side5 => exact Kd.C_y (Kd.R_reads' HO_535002.out).2.2); (case side6 => exact (Kd.R_reads' HO_535002.out).2.1); rintro e w116 ⟨rfl, hb⟩; have n0_ := mkA (Kd.V_below (Kd.V_y HO_525000.out) hb); have n1_ := mkA (Kd.V_below (Kd.V_y HO_525001.out) hb); have n2_ := mkA (Kd.R_below (Kd.R_y HO_525002.out) hb); have n3_ := mkA (Kd.R_below (Kd.R_y HO_535000.out) hb); have n4_ := mkA (Kd.R_below (Kd.R_y HO_535001.out) hb); have n5_ := mkA (Kd.R_below (Kd.R_y HO_535002.out) hb); have n6_ := mkA (Kd.R_below (Kd.R_y HO571.out) hb); have n7_ := mkA (Kd.R_below (Kd.R_y HO574.out) hb); have n8_ := mkA (Kd.R_below (Kd.R_y HO577.out) hb); have n9_ := mkA (Kd.R_below (Kd.R_y HO583.out) hb); have n10_ := mkA (Kd.R_below (Kd.R_y HO586.out) hb); have n11_ := mkA (Kd.R_below (Kd.R_y HO589.out) hb); have n12_ := mkA (blk_below (blk_y BK524.out) hb); have n13_ := mkA (blk_below (blk_y BK534.out) hb); have n14_ := mkA (blk_below (blk_y BK568.out) hb); have n15_ := mkA (blk_below (blk_y BK579.out) hb); have n16_ := mkA (blk_below (blk_y BK590.out) hb); have n17_ := mkA (below_step (below_y HB.out) hb); clear HO_525000; clear HO_525001; clear HO_525002; clear HO_535000; clear HO_535001; clear HO_535002; clear HO571; clear HO574; clear HO577; clear HO583; clear HO586; clear HO589; clear BK524; clear BK534; clear BK568; clear BK579; clear BK590; clear HB; have HO_525000 := n0_; have HO_525001 := n1_; have HO_525002 := n2_; have HO_535000 := n3_; have HO_535001 := n4_; have HO_535002 := n5_; have HO571 := n6_; have HO574 := n7_; have HO577 := n8_; have HO583 := n9_; have HO586 := n10_; have HO589 := n11_; have BK524 := n12_; have BK534 := n13_; have BK568 := n14_; have BK579 := n15_; have BK590 := n16_; have HB := n17_; clear n0_ n1_ n2_ n3_ n4_ n5_ n6_ n7_ n8_ n9_ n10_ n11_ n12_ n13_ n14_ n15_ n16_ n17_; (try clear hb); (try clear hb2); (try clear hk); (try clear hi)) | (go_at_call 41; (with_reducible refine (newsreellaw10_awake.calls kj16  tz_ _ Az_.out).mono ?_); rintro e w117 ⟨rfl, hb⟩; have n0_ := mkA (Kd.V_below (Kd.V_y HO_525000.out) hb); have n1_ := mkA (Kd.V_below (Kd.V_y HO_525001.out) hb); have n2_ := mkA (Kd.R_below (Kd.R_y HO_525002.out) hb); have n3_ := mkA (Kd.R_below (Kd.R_y HO_535000.out) hb); have n4_ := mkA (Kd.R_below (Kd.R_y HO_535001.out) hb); have n5_ := mkA (Kd.R_below (Kd.R_y HO_535002.out) hb); have n6_ := mkA (Kd.R_below (Kd.R_y HO571.out) hb); have n7_ := mkA (Kd.R_below (Kd.R_y HO574.out) hb); have n8_ := mkA (Kd.R_below (Kd.R_y HO577.out) hb); have n9_ := mkA (Kd.R_below (Kd.R_y HO583.out) hb); have n10_ := mkA (Kd.R_below (Kd.R_y HO586.out) hb); have n11_ := mkA (Kd.R_below (Kd.R_y HO589.out) hb); have n12_ := mkA (blk_below (blk_y BK524.out) hb); have n13_ := mkA (blk_below (blk_y BK534.out) hb); have n14_ := mkA (blk_below (blk_y BK568.out) hb); have n15_ := mkA (blk_below (blk_y BK579.out) hb); have n16_ := mkA (blk_below (blk_y BK590.out) hb); have n17_ := mkA (below_step (below_y HB.out) hb); clear HO_525000; clear HO_525001; clear HO_525002; clear HO_535000; clear HO_535001; clear HO_535002; clear HO571; clear HO574; clear HO577; clear HO583; clear HO586; clear HO589; clear BK524; clear BK534; clear BK568; clear BK579; clear BK590; clear HB; have HO_525000 := n0_; have HO_525001 := n1_; have HO_525002 := n2_; have HO_535000 := n3_; have HO_535001 := n4_; have HO_535002 := n5_; have HO571 := n6_; have HO574 := n7_; have HO577 := n8_; have HO583 := n9_; have HO586 := n10_; have HO589 := n11_; have BK524 := n12_; have BK534 := n13_; have BK568 := n14_; have BK579 := n15_; have BK590 := n16_; have HB := n17_; clear n0_ n1_ n2_ n3_ n4_ n5_ n6_ n7_ n8_ n9_ n10_ n11_ n12_ n13_ n14_ n15_ n16_ n17_; (try clear hb); (try clear hb2); (try clear hk); (try clear hi)))
   go_ret
   exact ⟨by first | rfl | (simp [errW_none, errW_some] <;> rfl) | (simp [*, errW_none, errW_some] <;> rfl), by repeat (first | (with_reducible first | exact HB.out | apply below_alloc | apply pw_below_drewN | apply below_drew1 | refine below_set ?_ GE524.out | refine below_set ?_ GE534.out | refine below_set ?_ GE568.out | refine below_set ?_ GE579.out | refine below_set ?_ GE590.out) | exact HB.out)⟩

end Go.Proofs.Ytkkikdjfigffhab.XDir
