import Derived.Test.YtghdkpcpgpfgcaaDoorXStbM0a
import Derived.Test.YtghdkpcpgpfgcaaDoorXStbM0b
namespace Go.Proofs.YtghdkpcpgpfgcaaDoor.XStb
open Go.RowKit Go.Proofs.YtghdkpcpgpfgcaaDoorW.PrintWords Go.Proofs.YtghdkpcpgpfgcaaDoorW.PrintLast Go.Proofs.YtghdkpcpgpfgcaaDoorW.PrintMore
attribute [local go_sem] max2_int min2_int max_two min_two max_three min_three max_four min_four   -- for this text's walks alone
set_option linter.unusedVariables false
set_option linter.unusedSimpArgs false

/-! ### newsreelref17_Put: function 9 -/
mutual
def newsreelref17_Put.j0 : Nat → Int → Bool → Option (ByteArray × Int)
 | 0, _, _ => none
 | k + 1, x0, x13 => if x13 = true then (some ((⟨#[]⟩ : ByteArray), 3)) else ((newsreelref17_names.f true).bind fun t349 => (if 0 ≤ (Int.tmod (wrap64 (Int.tdiv x0 86400)) 7) then (if (Int.tmod (wrap64 (Int.tdiv x0 86400)) 7) < (t349.length : Int) then ((newsreelref17_great.f (rdOf ByteArray.empty t349 (Int.tmod (wrap64 (Int.tdiv x0 86400)) 7))).bind fun t353 => (newsreelref17_Put.l0 k x0 (wrap64 (Int.tdiv x0 86400)) t353 1970 1)) else (none)) else (none)))
def newsreelref17_Put.l0 : Nat → Int → Int → ByteArray → Int → Int → Option (ByteArray × Int)
 | 0, _, _, _, _, _ => none
 | k + 1, x0, x4, x5, x6, x7 => (newsreelref17_Days.f k x6 x7).bind fun t354 => (if x4 ≥ t354 then ((newsreelref17_Days.f k x6 x7).bind fun t355 => (if (wrap64 (x7 + 1)) > 12 then (newsreelref17_Put.l0 k x0 (wrap64 (x4 - t355)) x5 (wrap64 (x6 + 1)) 1) else (newsreelref17_Put.l0 k x0 (wrap64 (x4 - t355)) x5 x6 (wrap64 (x7 + 1))))) else (if x5.size + 2 ≤ 9223372036854775807 then ((newsreelref17_two.f k (wrap64 (x4 + 1))).bind fun t356 => (if (x5 ++ (⟨#[44, 32]⟩ : ByteArray)).size + t356.size ≤ 9223372036854775807 then (if ((x5 ++ (⟨#[44, 32]⟩ : ByteArray)) ++ t356).size + 1 ≤ 9223372036854775807 then ((newsreelref17_names.f false).bind fun t357 => (if 0 ≤ (wrap64 (x7 - 1)) then (if (wrap64 (x7 - 1)) < (t357.length : Int) then ((newsreelref17_great.f (rdOf ByteArray.empty t357 (wrap64 (x7 - 1)))).bind fun t361 => (if (((x5 ++ (⟨#[44, 32]⟩ : ByteArray)) ++ t356) ++ (⟨#[32]⟩ : ByteArray)).size + t361.size ≤ 9223372036854775807 then (if ((((x5 ++ (⟨#[44, 32]⟩ : ByteArray)) ++ t356) ++ (⟨#[32]⟩ : ByteArray)) ++ t361).size + 1 ≤ 9223372036854775807 then ((newsreelref01_Put.f k x6).bind fun t362 => (if (((((x5 ++ (⟨#[44, 32]⟩ : ByteArray)) ++ t356) ++ (⟨#[32]⟩ : ByteArray)) ++ t361) ++ (⟨#[32]⟩ : ByteArray)).size + t362.size ≤ 9223372036854775807 then (if ((((((x5 ++ (⟨#[44, 32]⟩ : ByteArray)) ++ t356) ++ (⟨#[32]⟩ : ByteArray)) ++ t361) ++ (⟨#[32]⟩ : ByteArray)) ++ t362).size + 1 ≤ 9223372036854775807 then ((newsreelref17_two.f k (wrap64 (Int.tdiv (Int.tmod x0 86400) 3600))).bind fun t363 => (if (((((((x5 ++ (⟨#[44, 32]⟩ : ByteArray)) ++ t356) ++ (⟨#[32]⟩ : ByteArray)) ++ t361) ++ (⟨#[32]⟩ : ByteArray)) ++ t362) ++ (⟨#[32]⟩ : ByteArray)).size + t363.size ≤ 9223372036854775807 then (if ((((((((x5 ++ (⟨#[44, 32]⟩ : ByteArray)) ++ t356) ++ (⟨#[32]⟩ : ByteArray)) ++ t361) ++ (⟨#[32]⟩ : ByteArray)) ++ t362) ++ (⟨#[32]⟩ : ByteArray)) ++ t363).size + 1 ≤ 9223372036854775807 then ((newsreelref17_two.f k (wrap64 (Int.tdiv (Int.tmod x0 3600) 60))).bind fun t364 => (if (((((((((x5 ++ (⟨#[44, 32]⟩ : ByteArray)) ++ t356) ++ (⟨#[32]⟩ : ByteArray)) ++ t361) ++ (⟨#[32]⟩ : ByteArray)) ++ t362) ++ (⟨#[32]⟩ : ByteArray)) ++ t363) ++ (⟨#[58]⟩ : ByteArray)).size + t364.size ≤ 9223372036854775807 then (if ((((((((((x5 ++ (⟨#[44, 32]⟩ : ByteArray)) ++ t356) ++ (⟨#[32]⟩ : ByteArray)) ++ t361) ++ (⟨#[32]⟩ : ByteArray)) ++ t362) ++ (⟨#[32]⟩ : ByteArray)) ++ t363) ++ (⟨#[58]⟩ : ByteArray)) ++ t364).size + 1 ≤ 9223372036854775807 then ((newsreelref17_two.f k (Int.tmod x0 60)).bind fun t365 => (if (((((((((((x5 ++ (⟨#[44, 32]⟩ : ByteArray)) ++ t356) ++ (⟨#[32]⟩ : ByteArray)) ++ t361) ++ (⟨#[32]⟩ : ByteArray)) ++ t362) ++ (⟨#[32]⟩ : ByteArray)) ++ t363) ++ (⟨#[58]⟩ : ByteArray)) ++ t364) ++ (⟨#[58]⟩ : ByteArray)).size + t365.size ≤ 9223372036854775807 then (if ((((((((((((x5 ++ (⟨#[44, 32]⟩ : ByteArray)) ++ t356) ++ (⟨#[32]⟩ : ByteArray)) ++ t361) ++ (⟨#[32]⟩ : ByteArray)) ++ t362) ++ (⟨#[32]⟩ : ByteArray)) ++ t363) ++ (⟨#[58]⟩ : ByteArray)) ++ t364) ++ (⟨#[58]⟩ : ByteArray)) ++ t365).size + 4 ≤ 9223372036854775807 then (some (((((((((((((x5 ++ (⟨#[44, 32]⟩ : ByteArray)) ++ t356) ++ (⟨#[32]⟩ : ByteArray)) ++ t361) ++ (⟨#[32]⟩ : ByteArray)) ++ t362) ++ (⟨#[32]⟩ : ByteArray)) ++ t363) ++ (⟨#[58]⟩ : ByteArray)) ++ t364) ++ (⟨#[58]⟩ : ByteArray)) ++ t365) ++ (⟨#[32, 71, 77, 84]⟩ : ByteArray), 0)) else (none)) else (none))) else (none)) else (none))) else (none)) else (none))) else (none)) else (none))) else (none)) else (none))) else (none)) else (none))) else (none)) else (none))) else (none)))
end
def newsreelref17_Put.f (k : Nat) (a0 : Int) : Option (ByteArray × Int) := if a0 < 0 then (newsreelref17_Put.j0 k a0 true) else (newsreelref17_Put.j0 k a0 (decide (a0 ≥ 7258118400)))
theorem newsreelref17_Put.mono_l : ∀ k, (∀ y0 y1, LeO (newsreelref17_Put.j0 k y0 y1) (newsreelref17_Put.j0 (k + 1) y0 y1)) ∧ (∀ y0 y1 y2 y3 y4, LeO (newsreelref17_Put.l0 k y0 y1 y2 y3 y4) (newsreelref17_Put.l0 (k + 1) y0 y1 y2 y3 y4))
 | 0 => ⟨fun _ _ r h => by simp [newsreelref17_Put.j0] at h, fun _ _ _ _ _ r h => by simp [newsreelref17_Put.l0] at h⟩
 | k + 1 => by
  obtain ⟨ih0, ih1⟩ := newsreelref17_Put.mono_l k
  refine ⟨?_, ?_⟩
  ·intro y0 y1
   unfold newsreelref17_Put.j0
   repeat' first
   | (with_reducible exact ih0 _ _)
   | (with_reducible exact ih1 _ _ _ _ _)
   | (with_reducible exact newsreelref01_Put.mono _ _)
   | (with_reducible exact newsreelref17_Days.mono _ _ _)
   | (with_reducible exact newsreelref17_two.mono _ _)
   | (with_reducible exact LeO.refl _)
   | (with_reducible exact LeO.none _)
   | (with_reducible refine LeO.ite ?_ ?_)
   | (with_reducible refine LeO.bind ?_ (fun _ => ?_))
   | exact ih0 _ _
   | exact ih1 _ _ _ _ _
   | exact newsreelref01_Put.mono _ _
   | exact newsreelref17_Days.mono _ _ _
   | exact newsreelref17_two.mono _ _
   | exact LeO.none _
   | refine LeO.ite ?_ ?_
   | refine LeO.bind ?_ (fun _ => ?_)
  ·intro y0 y1 y2 y3 y4
   unfold newsreelref17_Put.l0
   repeat' first
   | (with_reducible exact ih0 _ _)
   | (with_reducible exact ih1 _ _ _ _ _)
   | (with_reducible exact newsreelref01_Put.mono _ _)
   | (with_reducible exact newsreelref17_Days.mono _ _ _)
   | (with_reducible exact newsreelref17_two.mono _ _)
   | (with_reducible exact LeO.refl _)
   | (with_reducible exact LeO.none _)
   | (with_reducible refine LeO.ite ?_ ?_)
   | (with_reducible refine LeO.bind ?_ (fun _ => ?_))
   | exact ih0 _ _
   | exact ih1 _ _ _ _ _
   | exact newsreelref01_Put.mono _ _
   | exact newsreelref17_Days.mono _ _ _
   | exact newsreelref17_two.mono _ _
   | exact LeO.none _
   | refine LeO.ite ?_ ?_
   | refine LeO.bind ?_ (fun _ => ?_)
theorem newsreelref17_Put.mono : ∀ a0 k, LeO (newsreelref17_Put.f k a0) (newsreelref17_Put.f (k + 1) a0) := by
 intro a0 k
 obtain ⟨ih0, ih1⟩ := newsreelref17_Put.mono_l k
 unfold newsreelref17_Put.f
 repeat' first
   | (with_reducible exact ih0 _ _)
   | (with_reducible exact ih1 _ _ _ _ _)
   | (with_reducible exact newsreelref01_Put.mono _ _)
   | (with_reducible exact newsreelref17_Days.mono _ _ _)
   | (with_reducible exact newsreelref17_two.mono _ _)
   | (with_reducible exact LeO.refl _)
   | (with_reducible exact LeO.none _)
   | (with_reducible refine LeO.ite ?_ ?_)
   | (with_reducible refine LeO.bind ?_ (fun _ => ?_))
   | exact ih0 _ _
   | exact ih1 _ _ _ _ _
   | exact newsreelref01_Put.mono _ _
   | exact newsreelref17_Days.mono _ _ _
   | exact newsreelref17_two.mono _ _
   | exact LeO.none _
   | refine LeO.ite ?_ ?_
   | refine LeO.bind ?_ (fun _ => ?_)
set_option maxHeartbeats 8000000 in
set_option maxRecDepth 100000 in
theorem newsreelref17_Put.calls (k : Nat) (a0 : Int) (r1 : ByteArray) (r2 : Int) (w : World) (h : newsreelref17_Put.f k a0 = some (r1, r2)) :
  Calls Tryd.prog 9 #[.int .i64 a0] w fun e w' => e = .returned (.tuple #[.string r1, .int .i64 r2]) ∧ Below w.heap.size w w' := by
 have HB := mkA (Below.refl w.heap.size w)
 have H : (if a0 < 0 then (newsreelref17_Put.j0 k a0 true) else (newsreelref17_Put.j0 k a0 (decide (a0 ≥ 7258118400)))) = some (r1, r2) := h
 clear h
 have HC2 := mkA H
 clear H
 go_enter Tryd.func9, Tryd.ntmps9
 go_upto_region 1 with (fail)
 go_cut [13] (fun v13 wc => ∃ (kq : Nat) (x13_1 : Bool), v13 = .bool x13_1 ∧ Aside0 (newsreelref17_Put.j0 kq a0 x13_1 = some (r1, r2)) ∧ Aside0 (kq ≤ k) ∧ Aside0 (Below w.heap.size w wc))
 case first =>
  have H := HC2.out
  clear HC2
  by_cases c3 : a0 < 0
  ·rw [if_pos c3] at H
   have c3b0 : decide (a0 < 0) = true := decide_eq_true c3
   clear c3
   (first | rw [c3b0] | (simp only [i64_w, i32_w]; rw [c3b0]) | skip)
   as_aux_lemma =>
    have H' := mkA H
    clear H
    go_wp2
    go_meet
    case rel => exact ⟨_, (true), (by first | rfl | (simp; done) | (simp [*]; done)), H', ⟨by first | omega | exact Nat.le_refl _⟩, ⟨below_y HB.out⟩⟩
  ·rw [if_neg c3] at H
   have c3b0 : decide (a0 < 0) = false := decide_eq_false c3
   clear c3
   (first | rw [c3b0] | (simp only [i64_w, i32_w]; rw [c3b0]) | skip)
   as_aux_lemma =>
    have H' := mkA H
    clear H
    go_wp2
    go_meet
    case rel => exact ⟨_, (decide (a0 ≥ 7258118400)), (by first | rfl | (simp; done) | (simp [*]; done)), H', ⟨by first | omega | exact Nat.le_refl _⟩, ⟨below_y HB.out⟩⟩
 case rest =>
  clear HC2
  try clear p2
  try clear c3
  try clear c3b0
  obtain ⟨kq, x13_1, rfl, HA, HJ1, HB⟩ := hcut
  cases kq with
  | zero => exact absurd HA.out (by simp [newsreelref17_Put.j0])
  | succ kj1 =>
   have H := HA.out
   clear HA
   simp only [newsreelref17_Put.j0] at H
   by_cases c4 : x13_1 = true
   ·subst c4
    have H1 : (some ((⟨#[]⟩ : ByteArray), 3)) = some (r1, r2) := by rw [if_pos rfl] at H; exact H
    clear H
    have H := H1
    clear H1
    as_aux_lemma =>
     simp only [Option.some.injEq, Prod.mk.injEq] at H
     obtain ⟨rfl, rfl⟩ := H
     go_wp2
     go_ret2
     exact ⟨by first | rfl | (simp [errW_none, errW_some] <;> rfl) | (simp [*, errW_none, errW_some] <;> rfl), below_y HB.out⟩
   ·replace c4 := Bool.eq_false_iff.mpr c4
    subst c4
    have H1 : ((newsreelref17_names.f true).bind fun t349 => (if 0 ≤ (Int.tmod (wrap64 (Int.tdiv a0 86400)) 7) then (if (Int.tmod (wrap64 (Int.tdiv a0 86400)) 7) < (t349.length : Int) then ((newsreelref17_great.f (rdOf ByteArray.empty t349 (Int.tmod (wrap64 (Int.tdiv a0 86400)) 7))).bind fun t353 => (newsreelref17_Put.l0 kj1 a0 (wrap64 (Int.tdiv a0 86400)) t353 1970 1)) else (none)) else (none))) = some (r1, r2) := by rw [if_neg (show ¬ (false = true) by decide)] at H; exact H
    clear H
    have H := H1
    clear H1
    replace H := Option.bind_eq_some_iff.mp H
    obtain ⟨t349, A50, H⟩ := H
    replace H : (if 0 ≤ (Int.tmod (wrap64 (Int.tdiv a0 86400)) 7) then (if (Int.tmod (wrap64 (Int.tdiv a0 86400)) 7) < (t349.length : Int) then ((newsreelref17_great.f (rdOf ByteArray.empty t349 (Int.tmod (wrap64 (Int.tdiv a0 86400)) 7))).bind fun t353 => (newsreelref17_Put.l0 kj1 a0 (wrap64 (Int.tdiv a0 86400)) t353 1970 1)) else (none)) else (none)) = some (r1, r2) := H
    have A5 := mkA A50
    clear A50
    obtain ⟨ji6, hji6⟩ : ∃ j_ : Int, (Int.tmod (wrap64 (Int.tdiv a0 86400)) 7) = j_ := ⟨_, rfl⟩
    replace H : (if 0 ≤ (ji6) then (if (ji6) < (t349.length : Int) then ((newsreelref17_great.f (rdOf ByteArray.empty t349 (ji6))).bind fun t353 => (newsreelref17_Put.l0 kj1 a0 (wrap64 (Int.tdiv a0 86400)) t353 1970 1)) else (none)) else (none)) = some (r1, r2) := by first | (rw [hji6] at H; exact H) | (simp only [hji6] at H ⊢; exact H)
    (try rw [hji6] at A5)
    by_cases c7 : 0 ≤ (ji6)
    ·rw [if_pos c7] at H
     have c7b0 : decide (0 ≤ (ji6)) = true := decide_eq_true c7
     clear c7
     by_cases c8 : (ji6) < (t349.length : Int)
     ·rw [if_pos c8] at H
      have c8b0 : decide ((ji6) < (t349.length : Int)) = true := decide_eq_true c8
      clear c8
      replace H := Option.bind_eq_some_iff.mp H
      obtain ⟨t353, A90, H⟩ := H
      replace H : (newsreelref17_Put.l0 kj1 a0 (wrap64 (Int.tdiv a0 86400)) t353 1970 1) = some (r1, r2) := H
      have A9 := mkA A90
      clear A90
      have H' := mkA H
      clear H
      go_wp2_with (first | ((with_reducible refine gate_callee (f := 25) rfl ?_); refine goesL_ (some 16) rfl rfl Tryd.func25 (by kernel_rfl) rfl #[.bool true] rfl ca ?_; (with_reducible refine (newsreelref17_names.calls true t349 _ A5.out).mono ?_); rintro e w10 ⟨v350, rfl, ho0, hb⟩; refine ⟨_, rfl, ?_⟩; have n0_ := mkA (Kd.R_lower ho0 (below_size (below_y HB.out))); have n1_ := mkA (below_step (below_y HB.out) hb); clear HB; have HO351 := n0_; have HB := n1_; clear n0_ n1_; (try clear hb); (try clear hb2); (try clear hk); (try clear hi); (try clear ho0); obtain ⟨Ao11, co11, eo11⟩ := Kd.R_slice HO351.out; subst eo11; have p352 : 0 ≤ ((ji6) : Int) := odt; have q352 : (ji6) < (t349.length : Int) := odt; obtain ⟨ad352, e352, hx352_0⟩ := Kd.at_string (Kd.R_reads' HO351.out).2.2 (ji6) p352 q352; cases e352; replace p352 := eq_true p352; replace q352 := eq_true q352) | ((with_reducible refine gate_callee (f := 24) rfl ?_); refine goesL_ (some 21) rfl rfl Tryd.func24 (by kernel_rfl) rfl #[.string (rdOf ByteArray.empty t349 (ji6))] rfl (by (try simp only [List.map_toArray, List.map_cons, List.map_nil]); first | done | (simp only [hji6]; rfl) | rfl | (simp only [List.length_drop, List.length_take]; rfl)) ?_; (with_reducible refine (newsreelref17_great.calls (rdOf ByteArray.empty t349 (ji6)) t353 _ A9.out).mono ?_); rintro e w12 ⟨rfl, hb⟩; refine ⟨_, rfl, ?_⟩; have n0_ := mkA (Kd.R_below (Kd.R_y HO351.out) hb); have n1_ := mkA (below_step (below_y HB.out) hb); clear HO351; clear HB; have HO351 := n0_; have HB := n1_; clear n0_ n1_; (try clear hb); (try clear hb2); (try clear hk); (try clear hi)))
      go_loopg [4, 6, 7] kj1 (fun kq v4 v6 v7 w' => ∃ (x4_2 : Int) (x6_2 : Int) (x7_2 : Int), v4 = .int .i64 x4_2 ∧ v6 = .int .i64 x6_2 ∧ v7 = .int .i64 x7_2 ∧ Aside0 (newsreelref17_Put.l0 kq a0 x4_2 t353 x6_2 x7_2 = some (r1, r2)) ∧ Aside0 (kq ≤ kj1) ∧ Aside0 (Below w.heap.size w w'))
      case atStart => exact ⟨(wrap64 (Int.tdiv a0 86400)), (1970), (1), (by first | rfl | (simp; done) | (simp [*]; done)), (by first | rfl | (simp; done) | (simp [*]; done)), (by first | rfl | (simp; done) | (simp [*]; done)), H', ⟨Nat.le_refl _⟩, ⟨below_y HB.out⟩⟩
      case round =>
       clear H'
       try clear c2
       try clear p2
       try clear c3
       try clear c3b0
       try clear p3
       try clear q3
       try clear hx3
       try clear c4
       try clear p6
       try clear c7
       try clear c7b0
       try clear c8
       try clear c8b0
       try clear c9
       try clear hx352_0
       try clear p2
       try clear p352
       try clear q352
       obtain ⟨x4_2, x6_2, x7_2, rfl, rfl, rfl, HA, HK2, HB⟩ := hrel
       cases gk with
       | zero => exact absurd HA.out (by simp [newsreelref17_Put.l0])
       | succ k2 =>
        have H := HA.out
        clear HA
        simp only [newsreelref17_Put.l0] at H
        replace H := Option.bind_eq_some_iff.mp H
        obtain ⟨t354, A130, H⟩ := H
        replace H : (if x4_2 ≥ t354 then ((newsreelref17_Days.f k2 x6_2 x7_2).bind fun t355 => (if (wrap64 (x7_2 + 1)) > 12 then (newsreelref17_Put.l0 k2 a0 (wrap64 (x4_2 - t355)) t353 (wrap64 (x6_2 + 1)) 1) else (newsreelref17_Put.l0 k2 a0 (wrap64 (x4_2 - t355)) t353 x6_2 (wrap64 (x7_2 + 1))))) else (if t353.size + 2 ≤ 9223372036854775807 then ((newsreelref17_two.f k2 (wrap64 (x4_2 + 1))).bind fun t356 => (if (t353 ++ (⟨#[44, 32]⟩ : ByteArray)).size + t356.size ≤ 9223372036854775807 then (if ((t353 ++ (⟨#[44, 32]⟩ : ByteArray)) ++ t356).size + 1 ≤ 9223372036854775807 then ((newsreelref17_names.f false).bind fun t357 => (if 0 ≤ (wrap64 (x7_2 - 1)) then (if (wrap64 (x7_2 - 1)) < (t357.length : Int) then ((newsreelref17_great.f (rdOf ByteArray.empty t357 (wrap64 (x7_2 - 1)))).bind fun t361 => (if (((t353 ++ (⟨#[44, 32]⟩ : ByteArray)) ++ t356) ++ (⟨#[32]⟩ : ByteArray)).size + t361.size ≤ 9223372036854775807 then (if ((((t353 ++ (⟨#[44, 32]⟩ : ByteArray)) ++ t356) ++ (⟨#[32]⟩ : ByteArray)) ++ t361).size + 1 ≤ 9223372036854775807 then ((newsreelref01_Put.f k2 x6_2).bind fun t362 => (if (((((t353 ++ (⟨#[44, 32]⟩ : ByteArray)) ++ t356) ++ (⟨#[32]⟩ : ByteArray)) ++ t361) ++ (⟨#[32]⟩ : ByteArray)).size + t362.size ≤ 9223372036854775807 then (if ((((((t353 ++ (⟨#[44, 32]⟩ : ByteArray)) ++ t356) ++ (⟨#[32]⟩ : ByteArray)) ++ t361) ++ (⟨#[32]⟩ : ByteArray)) ++ t362).size + 1 ≤ 9223372036854775807 then ((newsreelref17_two.f k2 (wrap64 (Int.tdiv (Int.tmod a0 86400) 3600))).bind fun t363 => (if (((((((t353 ++ (⟨#[44, 32]⟩ : ByteArray)) ++ t356) ++ (⟨#[32]⟩ : ByteArray)) ++ t361) ++ (⟨#[32]⟩ : ByteArray)) ++ t362) ++ (⟨#[32]⟩ : ByteArray)).size + t363.size ≤ 9223372036854775807 then (if ((((((((t353 ++ (⟨#[44, 32]⟩ : ByteArray)) ++ t356) ++ (⟨#[32]⟩ : ByteArray)) ++ t361) ++ (⟨#[32]⟩ : ByteArray)) ++ t362) ++ (⟨#[32]⟩ : ByteArray)) ++ t363).size + 1 ≤ 9223372036854775807 then ((newsreelref17_two.f k2 (wrap64 (Int.tdiv (Int.tmod a0 3600) 60))).bind fun t364 => (if (((((((((t353 ++ (⟨#[44, 32]⟩ : ByteArray)) ++ t356) ++ (⟨#[32]⟩ : ByteArray)) ++ t361) ++ (⟨#[32]⟩ : ByteArray)) ++ t362) ++ (⟨#[32]⟩ : ByteArray)) ++ t363) ++ (⟨#[58]⟩ : ByteArray)).size + t364.size ≤ 9223372036854775807 then (if ((((((((((t353 ++ (⟨#[44, 32]⟩ : ByteArray)) ++ t356) ++ (⟨#[32]⟩ : ByteArray)) ++ t361) ++ (⟨#[32]⟩ : ByteArray)) ++ t362) ++ (⟨#[32]⟩ : ByteArray)) ++ t363) ++ (⟨#[58]⟩ : ByteArray)) ++ t364).size + 1 ≤ 9223372036854775807 then ((newsreelref17_two.f k2 (Int.tmod a0 60)).bind fun t365 => (if (((((((((((t353 ++ (⟨#[44, 32]⟩ : ByteArray)) ++ t356) ++ (⟨#[32]⟩ : ByteArray)) ++ t361) ++ (⟨#[32]⟩ : ByteArray)) ++ t362) ++ (⟨#[32]⟩ : ByteArray)) ++ t363) ++ (⟨#[58]⟩ : ByteArray)) ++ t364) ++ (⟨#[58]⟩ : ByteArray)).size + t365.size ≤ 9223372036854775807 then (if ((((((((((((t353 ++ (⟨#[44, 32]⟩ : ByteArray)) ++ t356) ++ (⟨#[32]⟩ : ByteArray)) ++ t361) ++ (⟨#[32]⟩ : ByteArray)) ++ t362) ++ (⟨#[32]⟩ : ByteArray)) ++ t363) ++ (⟨#[58]⟩ : ByteArray)) ++ t364) ++ (⟨#[58]⟩ : ByteArray)) ++ t365).size + 4 ≤ 9223372036854775807 then (some (((((((((((((t353 ++ (⟨#[44, 32]⟩ : ByteArray)) ++ t356) ++ (⟨#[32]⟩ : ByteArray)) ++ t361) ++ (⟨#[32]⟩ : ByteArray)) ++ t362) ++ (⟨#[32]⟩ : ByteArray)) ++ t363) ++ (⟨#[58]⟩ : ByteArray)) ++ t364) ++ (⟨#[58]⟩ : ByteArray)) ++ t365) ++ (⟨#[32, 71, 77, 84]⟩ : ByteArray), 0)) else (none)) else (none))) else (none)) else (none))) else (none)) else (none))) else (none)) else (none))) else (none)) else (none))) else (none)) else (none))) else (none)) else (none))) else (none))) = some (r1, r2) := H
        have A13 := mkA A130
        clear A130
        by_cases c14 : x4_2 ≥ t354
        ·rw [if_pos c14] at H
         have c14b0 : decide (t354 ≤ x4_2) = true := decide_eq_true c14
         clear c14
         replace H := Option.bind_eq_some_iff.mp H
         obtain ⟨t355, A150, H⟩ := H
         replace H : (if (wrap64 (x7_2 + 1)) > 12 then (newsreelref17_Put.l0 k2 a0 (wrap64 (x4_2 - t355)) t353 (wrap64 (x6_2 + 1)) 1) else (newsreelref17_Put.l0 k2 a0 (wrap64 (x4_2 - t355)) t353 x6_2 (wrap64 (x7_2 + 1)))) = some (r1, r2) := H
         have A15 := mkA A150
         clear A150
         by_cases c16 : (wrap64 (x7_2 + 1)) > 12
         ·rw [if_pos c16] at H
          have c16b0 : decide (12 < (wrap64 (x7_2 + 1))) = true := decide_eq_true c16
          clear c16
          as_aux_lemma =>
           have H' := mkA H
           clear H
           go_wp2_with (first | ((with_reducible refine gate_callee (f := 11) rfl ?_); refine goesL_ (some 25) rfl rfl Tryd.func11 (by kernel_rfl) rfl #[.int .i64 x6_2, .int .i64 x7_2] rfl ca ?_; (with_reducible refine (newsreelref17_Days.calls k2 x6_2 x7_2 t354 _ A13.out).mono ?_); rintro e w' ⟨rfl, ⟨nd, rfl⟩⟩; refine ⟨_, rfl, ?_⟩) | ((with_reducible refine gate_callee (f := 11) rfl ?_); refine goesL_ (some 30) rfl rfl Tryd.func11 (by kernel_rfl) rfl #[.int .i64 x6_2, .int .i64 x7_2] rfl ca ?_; (with_reducible refine (newsreelref17_Days.calls k2 x6_2 x7_2 t355 _ A15.out).mono ?_); rintro e w' ⟨rfl, ⟨nd, rfl⟩⟩; refine ⟨_, rfl, ?_⟩))
           go_roundg k2
           case measure => have := HJ1.out; have := HK2.out; omega
           case rel => exact ⟨(wrap64 (x4_2 - t355)), (wrap64 (x6_2 + 1)), (1), (by first | rfl | (simp; done) | (simp [*]; done)), (by first | rfl | (simp; done) | (simp [*]; done)), (by first | rfl | (simp; done) | (simp [*]; done)), H', ⟨by have := HJ1.out; have := HK2.out; omega⟩, ⟨below_y HB.out⟩⟩
         ·rw [if_neg c16] at H
          have c16b0 : decide (12 < (wrap64 (x7_2 + 1))) = false := decide_eq_false c16
          clear c16
          as_aux_lemma =>
           have H' := mkA H
           clear H
           go_wp2_with (first | ((with_reducible refine gate_callee (f := 11) rfl ?_); refine goesL_ (some 25) rfl rfl Tryd.func11 (by kernel_rfl) rfl #[.int .i64 x6_2, .int .i64 x7_2] rfl ca ?_; (with_reducible refine (newsreelref17_Days.calls k2 x6_2 x7_2 t354 _ A13.out).mono ?_); rintro e w' ⟨rfl, ⟨nd, rfl⟩⟩; refine ⟨_, rfl, ?_⟩) | ((with_reducible refine gate_callee (f := 11) rfl ?_); refine goesL_ (some 30) rfl rfl Tryd.func11 (by kernel_rfl) rfl #[.int .i64 x6_2, .int .i64 x7_2] rfl ca ?_; (with_reducible refine (newsreelref17_Days.calls k2 x6_2 x7_2 t355 _ A15.out).mono ?_); rintro e w' ⟨rfl, ⟨nd, rfl⟩⟩; refine ⟨_, rfl, ?_⟩))
           go_roundg k2
           case measure => have := HJ1.out; have := HK2.out; omega
           case rel => exact ⟨(wrap64 (x4_2 - t355)), (x6_2), (wrap64 (x7_2 + 1)), (by first | rfl | (simp; done) | (simp [*]; done)), (by first | rfl | (simp; done) | (simp [*]; done)), (by first | rfl | (simp; done) | (simp [*]; done)), H', ⟨by have := HJ1.out; have := HK2.out; omega⟩, ⟨below_y HB.out⟩⟩
        ·rw [if_neg c14] at H
         have c14b0 : decide (t354 ≤ x4_2) = false := decide_eq_false c14
         clear c14
         by_cases c17 : t353.size + 2 ≤ 9223372036854775807
         ·rw [if_pos c17] at H
          have c17b0 := eq_true c17
          have c17b1 : decide (t353.size + 2 ≤ 9223372036854775807) = true := decide_eq_true c17
          try have c17b2 : (9223372036854775807 < t353.size + 2) = False := eq_false (Nat.not_lt.2 c17)
          replace H := Option.bind_eq_some_iff.mp H
          obtain ⟨t356, A180, H⟩ := H
          replace H : (if (t353 ++ (⟨#[44, 32]⟩ : ByteArray)).size + t356.size ≤ 9223372036854775807 then (if ((t353 ++ (⟨#[44, 32]⟩ : ByteArray)) ++ t356).size + 1 ≤ 9223372036854775807 then ((newsreelref17_names.f false).bind fun t357 => (if 0 ≤ (wrap64 (x7_2 - 1)) then (if (wrap64 (x7_2 - 1)) < (t357.length : Int) then ((newsreelref17_great.f (rdOf ByteArray.empty t357 (wrap64 (x7_2 - 1)))).bind fun t361 => (if (((t353 ++ (⟨#[44, 32]⟩ : ByteArray)) ++ t356) ++ (⟨#[32]⟩ : ByteArray)).size + t361.size ≤ 9223372036854775807 then (if ((((t353 ++ (⟨#[44, 32]⟩ : ByteArray)) ++ t356) ++ (⟨#[32]⟩ : ByteArray)) ++ t361).size + 1 ≤ 9223372036854775807 then ((newsreelref01_Put.f k2 x6_2).bind fun t362 => (if (((((t353 ++ (⟨#[44, 32]⟩ : ByteArray)) ++ t356) ++ (⟨#[32]⟩ : ByteArray)) ++ t361) ++ (⟨#[32]⟩ : ByteArray)).size + t362.size ≤ 9223372036854775807 then (if ((((((t353 ++ (⟨#[44, 32]⟩ : ByteArray)) ++ t356) ++ (⟨#[32]⟩ : ByteArray)) ++ t361) ++ (⟨#[32]⟩ : ByteArray)) ++ t362).size + 1 ≤ 9223372036854775807 then ((newsreelref17_two.f k2 (wrap64 (Int.tdiv (Int.tmod a0 86400) 3600))).bind fun t363 => (if (((((((t353 ++ (⟨#[44, 32]⟩ : ByteArray)) ++ t356) ++ (⟨#[32]⟩ : ByteArray)) ++ t361) ++ (⟨#[32]⟩ : ByteArray)) ++ t362) ++ (⟨#[32]⟩ : ByteArray)).size + t363.size ≤ 9223372036854775807 then (if ((((((((t353 ++ (⟨#[44, 32]⟩ : ByteArray)) ++ t356) ++ (⟨#[32]⟩ : ByteArray)) ++ t361) ++ (⟨#[32]⟩ : ByteArray)) ++ t362) ++ (⟨#[32]⟩ : ByteArray)) ++ t363).size + 1 ≤ 9223372036854775807 then ((newsreelref17_two.f k2 (wrap64 (Int.tdiv (Int.tmod a0 3600) 60))).bind fun t364 => (if (((((((((t353 ++ (⟨#[44, 32]⟩ : ByteArray)) ++ t356) ++ (⟨#[32]⟩ : ByteArray)) ++ t361) ++ (⟨#[32]⟩ : ByteArray)) ++ t362) ++ (⟨#[32]⟩ : ByteArray)) ++ t363) ++ (⟨#[58]⟩ : ByteArray)).size + t364.size ≤ 9223372036854775807 then (if ((((((((((t353 ++ (⟨#[44, 32]⟩ : ByteArray)) ++ t356) ++ (⟨#[32]⟩ : ByteArray)) ++ t361) ++ (⟨#[32]⟩ : ByteArray)) ++ t362) ++ (⟨#[32]⟩ : ByteArray)) ++ t363) ++ (⟨#[58]⟩ : ByteArray)) ++ t364).size + 1 ≤ 9223372036854775807 then ((newsreelref17_two.f k2 (Int.tmod a0 60)).bind fun t365 => (if (((((((((((t353 ++ (⟨#[44, 32]⟩ : ByteArray)) ++ t356) ++ (⟨#[32]⟩ : ByteArray)) ++ t361) ++ (⟨#[32]⟩ : ByteArray)) ++ t362) ++ (⟨#[32]⟩ : ByteArray)) ++ t363) ++ (⟨#[58]⟩ : ByteArray)) ++ t364) ++ (⟨#[58]⟩ : ByteArray)).size + t365.size ≤ 9223372036854775807 then (if ((((((((((((t353 ++ (⟨#[44, 32]⟩ : ByteArray)) ++ t356) ++ (⟨#[32]⟩ : ByteArray)) ++ t361) ++ (⟨#[32]⟩ : ByteArray)) ++ t362) ++ (⟨#[32]⟩ : ByteArray)) ++ t363) ++ (⟨#[58]⟩ : ByteArray)) ++ t364) ++ (⟨#[58]⟩ : ByteArray)) ++ t365).size + 4 ≤ 9223372036854775807 then (some (((((((((((((t353 ++ (⟨#[44, 32]⟩ : ByteArray)) ++ t356) ++ (⟨#[32]⟩ : ByteArray)) ++ t361) ++ (⟨#[32]⟩ : ByteArray)) ++ t362) ++ (⟨#[32]⟩ : ByteArray)) ++ t363) ++ (⟨#[58]⟩ : ByteArray)) ++ t364) ++ (⟨#[58]⟩ : ByteArray)) ++ t365) ++ (⟨#[32, 71, 77, 84]⟩ : ByteArray), 0)) else (none)) else (none))) else (none)) else (none))) else (none)) else (none))) else (none)) else (none))) else (none)) else (none))) else (none)) else (none))) else (none)) else (none)) = some (r1, r2) := H
          have A18 := mkA A180
          clear A180
          by_cases c19 : (t353 ++ (⟨#[44, 32]⟩ : ByteArray)).size + t356.size ≤ 9223372036854775807
          ·rw [if_pos c19] at H
           have c19b0 := eq_true c19
           have c19b1 : decide ((t353 ++ (⟨#[44, 32]⟩ : ByteArray)).size + t356.size ≤ 9223372036854775807) = true := decide_eq_true c19
           try have c19b2 : (9223372036854775807 < (t353 ++ (⟨#[44, 32]⟩ : ByteArray)).size + t356.size) = False := eq_false (Nat.not_lt.2 c19)
           have c19z : (9223372036854775807 < t353.size + 2 + t356.size) = False := eq_false (Nat.not_lt.2 (by have h8 := c19; (try simp only [ByteArray.size_append] at h8); exact h8))
           by_cases c20 : ((t353 ++ (⟨#[44, 32]⟩ : ByteArray)) ++ t356).size + 1 ≤ 9223372036854775807
           ·rw [if_pos c20] at H
            have c20b0 := eq_true c20
            have c20b1 : decide (((t353 ++ (⟨#[44, 32]⟩ : ByteArray)) ++ t356).size + 1 ≤ 9223372036854775807) = true := decide_eq_true c20
            try have c20b2 : (9223372036854775807 < ((t353 ++ (⟨#[44, 32]⟩ : ByteArray)) ++ t356).size + 1) = False := eq_false (Nat.not_lt.2 c20)
            have c20z : (9223372036854775807 < t353.size + 2 + t356.size + 1) = False := eq_false (Nat.not_lt.2 (by have h8 := c20; (try simp only [ByteArray.size_append] at h8); exact h8))
            replace H := Option.bind_eq_some_iff.mp H
            obtain ⟨t357, A210, H⟩ := H
            replace H : (if 0 ≤ (wrap64 (x7_2 - 1)) then (if (wrap64 (x7_2 - 1)) < (t357.length : Int) then ((newsreelref17_great.f (rdOf ByteArray.empty t357 (wrap64 (x7_2 - 1)))).bind fun t361 => (if (((t353 ++ (⟨#[44, 32]⟩ : ByteArray)) ++ t356) ++ (⟨#[32]⟩ : ByteArray)).size + t361.size ≤ 9223372036854775807 then (if ((((t353 ++ (⟨#[44, 32]⟩ : ByteArray)) ++ t356) ++ (⟨#[32]⟩ : ByteArray)) ++ t361).size + 1 ≤ 9223372036854775807 then ((newsreelref01_Put.f k2 x6_2).bind fun t362 => (if (((((t353 ++ (⟨#[44, 32]⟩ : ByteArray)) ++ t356) ++ (⟨#[32]⟩ : ByteArray)) ++ t361) ++ (⟨#[32]⟩ : ByteArray)).size + t362.size ≤ 9223372036854775807 then (if ((((((t353 ++ (⟨#[44, 32]⟩ : ByteArray)) ++ t356) ++ (⟨#[32]⟩ : ByteArray)) ++ t361) ++ (⟨#[32]⟩ : ByteArray)) ++ t362).size + 1 ≤ 9223372036854775807 then ((newsreelref17_two.f k2 (wrap64 (Int.tdiv (Int.tmod a0 86400) 3600))).bind fun t363 => (if (((((((t353 ++ (⟨#[44, 32]⟩ : ByteArray)) ++ t356) ++ (⟨#[32]⟩ : ByteArray)) ++ t361) ++ (⟨#[32]⟩ : ByteArray)) ++ t362) ++ (⟨#[32]⟩ : ByteArray)).size + t363.size ≤ 9223372036854775807 then (if ((((((((t353 ++ (⟨#[44, 32]⟩ : ByteArray)) ++ t356) ++ (⟨#[32]⟩ : ByteArray)) ++ t361) ++ (⟨#[32]⟩ : ByteArray)) ++ t362) ++ (⟨#[32]⟩ : ByteArray)) ++ t363).size + 1 ≤ 9223372036854775807 then ((newsreelref17_two.f k2 (wrap64 (Int.tdiv (Int.tmod a0 3600) 60))).bind fun t364 => (if (((((((((t353 ++ (⟨#[44, 32]⟩ : ByteArray)) ++ t356) ++ (⟨#[32]⟩ : ByteArray)) ++ t361) ++ (⟨#[32]⟩ : ByteArray)) ++ t362) ++ (⟨#[32]⟩ : ByteArray)) ++ t363) ++ (⟨#[58]⟩ : ByteArray)).size + t364.size ≤ 9223372036854775807 then (if ((((((((((t353 ++ (⟨#[44, 32]⟩ : ByteArray)) ++ t356) ++ (⟨#[32]⟩ : ByteArray)) ++ t361) ++ (⟨#[32]⟩ : ByteArray)) ++ t362) ++ (⟨#[32]⟩ : ByteArray)) ++ t363) ++ (⟨#[58]⟩ : ByteArray)) ++ t364).size + 1 ≤ 9223372036854775807 then ((newsreelref17_two.f k2 (Int.tmod a0 60)).bind fun t365 => (if (((((((((((t353 ++ (⟨#[44, 32]⟩ : ByteArray)) ++ t356) ++ (⟨#[32]⟩ : ByteArray)) ++ t361) ++ (⟨#[32]⟩ : ByteArray)) ++ t362) ++ (⟨#[32]⟩ : ByteArray)) ++ t363) ++ (⟨#[58]⟩ : ByteArray)) ++ t364) ++ (⟨#[58]⟩ : ByteArray)).size + t365.size ≤ 9223372036854775807 then (if ((((((((((((t353 ++ (⟨#[44, 32]⟩ : ByteArray)) ++ t356) ++ (⟨#[32]⟩ : ByteArray)) ++ t361) ++ (⟨#[32]⟩ : ByteArray)) ++ t362) ++ (⟨#[32]⟩ : ByteArray)) ++ t363) ++ (⟨#[58]⟩ : ByteArray)) ++ t364) ++ (⟨#[58]⟩ : ByteArray)) ++ t365).size + 4 ≤ 9223372036854775807 then (some (((((((((((((t353 ++ (⟨#[44, 32]⟩ : ByteArray)) ++ t356) ++ (⟨#[32]⟩ : ByteArray)) ++ t361) ++ (⟨#[32]⟩ : ByteArray)) ++ t362) ++ (⟨#[32]⟩ : ByteArray)) ++ t363) ++ (⟨#[58]⟩ : ByteArray)) ++ t364) ++ (⟨#[58]⟩ : ByteArray)) ++ t365) ++ (⟨#[32, 71, 77, 84]⟩ : ByteArray), 0)) else (none)) else (none))) else (none)) else (none))) else (none)) else (none))) else (none)) else (none))) else (none)) else (none))) else (none)) else (none)) = some (r1, r2) := H
            have A21 := mkA A210
            clear A210
            obtain ⟨ji22, hji22⟩ : ∃ j_ : Int, (wrap64 (x7_2 - 1)) = j_ := ⟨_, rfl⟩
            replace H : (if 0 ≤ (ji22) then (if (ji22) < (t357.length : Int) then ((newsreelref17_great.f (rdOf ByteArray.empty t357 (ji22))).bind fun t361 => (if (((t353 ++ (⟨#[44, 32]⟩ : ByteArray)) ++ t356) ++ (⟨#[32]⟩ : ByteArray)).size + t361.size ≤ 9223372036854775807 then (if ((((t353 ++ (⟨#[44, 32]⟩ : ByteArray)) ++ t356) ++ (⟨#[32]⟩ : ByteArray)) ++ t361).size + 1 ≤ 9223372036854775807 then ((newsreelref01_Put.f k2 x6_2).bind fun t362 => (if (((((t353 ++ (⟨#[44, 32]⟩ : ByteArray)) ++ t356) ++ (⟨#[32]⟩ : ByteArray)) ++ t361) ++ (⟨#[32]⟩ : ByteArray)).size + t362.size ≤ 9223372036854775807 then (if ((((((t353 ++ (⟨#[44, 32]⟩ : ByteArray)) ++ t356) ++ (⟨#[32]⟩ : ByteArray)) ++ t361) ++ (⟨#[32]⟩ : ByteArray)) ++ t362).size + 1 ≤ 9223372036854775807 then ((newsreelref17_two.f k2 (wrap64 (Int.tdiv (Int.tmod a0 86400) 3600))).bind fun t363 => (if (((((((t353 ++ (⟨#[44, 32]⟩ : ByteArray)) ++ t356) ++ (⟨#[32]⟩ : ByteArray)) ++ t361) ++ (⟨#[32]⟩ : ByteArray)) ++ t362) ++ (⟨#[32]⟩ : ByteArray)).size + t363.size ≤ 9223372036854775807 then (if ((((((((t353 ++ (⟨#[44, 32]⟩ : ByteArray)) ++ t356) ++ (⟨#[32]⟩ : ByteArray)) ++ t361) ++ (⟨#[32]⟩ : ByteArray)) ++ t362) ++ (⟨#[32]⟩ : ByteArray)) ++ t363).size + 1 ≤ 9223372036854775807 then ((newsreelref17_two.f k2 (wrap64 (Int.tdiv (Int.tmod a0 3600) 60))).bind fun t364 => (if (((((((((t353 ++ (⟨#[44, 32]⟩ : ByteArray)) ++ t356) ++ (⟨#[32]⟩ : ByteArray)) ++ t361) ++ (⟨#[32]⟩ : ByteArray)) ++ t362) ++ (⟨#[32]⟩ : ByteArray)) ++ t363) ++ (⟨#[58]⟩ : ByteArray)).size + t364.size ≤ 9223372036854775807 then (if ((((((((((t353 ++ (⟨#[44, 32]⟩ : ByteArray)) ++ t356) ++ (⟨#[32]⟩ : ByteArray)) ++ t361) ++ (⟨#[32]⟩ : ByteArray)) ++ t362) ++ (⟨#[32]⟩ : ByteArray)) ++ t363) ++ (⟨#[58]⟩ : ByteArray)) ++ t364).size + 1 ≤ 9223372036854775807 then ((newsreelref17_two.f k2 (Int.tmod a0 60)).bind fun t365 => (if (((((((((((t353 ++ (⟨#[44, 32]⟩ : ByteArray)) ++ t356) ++ (⟨#[32]⟩ : ByteArray)) ++ t361) ++ (⟨#[32]⟩ : ByteArray)) ++ t362) ++ (⟨#[32]⟩ : ByteArray)) ++ t363) ++ (⟨#[58]⟩ : ByteArray)) ++ t364) ++ (⟨#[58]⟩ : ByteArray)).size + t365.size ≤ 9223372036854775807 then (if ((((((((((((t353 ++ (⟨#[44, 32]⟩ : ByteArray)) ++ t356) ++ (⟨#[32]⟩ : ByteArray)) ++ t361) ++ (⟨#[32]⟩ : ByteArray)) ++ t362) ++ (⟨#[32]⟩ : ByteArray)) ++ t363) ++ (⟨#[58]⟩ : ByteArray)) ++ t364) ++ (⟨#[58]⟩ : ByteArray)) ++ t365).size + 4 ≤ 9223372036854775807 then (some (((((((((((((t353 ++ (⟨#[44, 32]⟩ : ByteArray)) ++ t356) ++ (⟨#[32]⟩ : ByteArray)) ++ t361) ++ (⟨#[32]⟩ : ByteArray)) ++ t362) ++ (⟨#[32]⟩ : ByteArray)) ++ t363) ++ (⟨#[58]⟩ : ByteArray)) ++ t364) ++ (⟨#[58]⟩ : ByteArray)) ++ t365) ++ (⟨#[32, 71, 77, 84]⟩ : ByteArray), 0)) else (none)) else (none))) else (none)) else (none))) else (none)) else (none))) else (none)) else (none))) else (none)) else (none))) else (none)) else (none)) = some (r1, r2) := by first | (rw [hji22] at H; exact H) | (simp only [hji22] at H ⊢; exact H)
            (try rw [hji22] at A13)
            (try rw [hji22] at A18)
            (try rw [hji22] at A21)
            have hji22w : (IntKind.i64.wrap (x7_2 - 1)) = ji22 := (i64_w _).trans hji22
            by_cases c23 : 0 ≤ (ji22)
            ·rw [if_pos c23] at H
             have c23b0 : decide (0 ≤ (ji22)) = true := decide_eq_true c23
             clear c23
             by_cases c24 : (ji22) < (t357.length : Int)
             ·rw [if_pos c24] at H
              have c24b0 : decide ((ji22) < (t357.length : Int)) = true := decide_eq_true c24
              clear c24
              replace H := Option.bind_eq_some_iff.mp H
              obtain ⟨t361, A250, H⟩ := H
              replace H : (if (((t353 ++ (⟨#[44, 32]⟩ : ByteArray)) ++ t356) ++ (⟨#[32]⟩ : ByteArray)).size + t361.size ≤ 9223372036854775807 then (if ((((t353 ++ (⟨#[44, 32]⟩ : ByteArray)) ++ t356) ++ (⟨#[32]⟩ : ByteArray)) ++ t361).size + 1 ≤ 9223372036854775807 then ((newsreelref01_Put.f k2 x6_2).bind fun t362 => (if (((((t353 ++ (⟨#[44, 32]⟩ : ByteArray)) ++ t356) ++ (⟨#[32]⟩ : ByteArray)) ++ t361) ++ (⟨#[32]⟩ : ByteArray)).size + t362.size ≤ 9223372036854775807 then (if ((((((t353 ++ (⟨#[44, 32]⟩ : ByteArray)) ++ t356) ++ (⟨#[32]⟩ : ByteArray)) ++ t361) ++ (⟨#[32]⟩ : ByteArray)) ++ t362).size + 1 ≤ 9223372036854775807 then ((newsreelref17_two.f k2 (wrap64 (Int.tdiv (Int.tmod a0 86400) 3600))).bind fun t363 => (if (((((((t353 ++ (⟨#[44, 32]⟩ : ByteArray)) ++ t356) ++ (⟨#[32]⟩ : ByteArray)) ++ t361) ++ (⟨#[32]⟩ : ByteArray)) ++ t362) ++ (⟨#[32]⟩ : ByteArray)).size + t363.size ≤ 9223372036854775807 then (if ((((((((t353 ++ (⟨#[44, 32]⟩ : ByteArray)) ++ t356) ++ (⟨#[32]⟩ : ByteArray)) ++ t361) ++ (⟨#[32]⟩ : ByteArray)) ++ t362) ++ (⟨#[32]⟩ : ByteArray)) ++ t363).size + 1 ≤ 9223372036854775807 then ((newsreelref17_two.f k2 (wrap64 (Int.tdiv (Int.tmod a0 3600) 60))).bind fun t364 => (if (((((((((t353 ++ (⟨#[44, 32]⟩ : ByteArray)) ++ t356) ++ (⟨#[32]⟩ : ByteArray)) ++ t361) ++ (⟨#[32]⟩ : ByteArray)) ++ t362) ++ (⟨#[32]⟩ : ByteArray)) ++ t363) ++ (⟨#[58]⟩ : ByteArray)).size + t364.size ≤ 9223372036854775807 then (if ((((((((((t353 ++ (⟨#[44, 32]⟩ : ByteArray)) ++ t356) ++ (⟨#[32]⟩ : ByteArray)) ++ t361) ++ (⟨#[32]⟩ : ByteArray)) ++ t362) ++ (⟨#[32]⟩ : ByteArray)) ++ t363) ++ (⟨#[58]⟩ : ByteArray)) ++ t364).size + 1 ≤ 9223372036854775807 then ((newsreelref17_two.f k2 (Int.tmod a0 60)).bind fun t365 => (if (((((((((((t353 ++ (⟨#[44, 32]⟩ : ByteArray)) ++ t356) ++ (⟨#[32]⟩ : ByteArray)) ++ t361) ++ (⟨#[32]⟩ : ByteArray)) ++ t362) ++ (⟨#[32]⟩ : ByteArray)) ++ t363) ++ (⟨#[58]⟩ : ByteArray)) ++ t364) ++ (⟨#[58]⟩ : ByteArray)).size + t365.size ≤ 9223372036854775807 then (if ((((((((((((t353 ++ (⟨#[44, 32]⟩ : ByteArray)) ++ t356) ++ (⟨#[32]⟩ : ByteArray)) ++ t361) ++ (⟨#[32]⟩ : ByteArray)) ++ t362) ++ (⟨#[32]⟩ : ByteArray)) ++ t363) ++ (⟨#[58]⟩ : ByteArray)) ++ t364) ++ (⟨#[58]⟩ : ByteArray)) ++ t365).size + 4 ≤ 9223372036854775807 then (some (((((((((((((t353 ++ (⟨#[44, 32]⟩ : ByteArray)) ++ t356) ++ (⟨#[32]⟩ : ByteArray)) ++ t361) ++ (⟨#[32]⟩ : ByteArray)) ++ t362) ++ (⟨#[32]⟩ : ByteArray)) ++ t363) ++ (⟨#[58]⟩ : ByteArray)) ++ t364) ++ (⟨#[58]⟩ : ByteArray)) ++ t365) ++ (⟨#[32, 71, 77, 84]⟩ : ByteArray), 0)) else (none)) else (none))) else (none)) else (none))) else (none)) else (none))) else (none)) else (none))) else (none)) else (none)) = some (r1, r2) := H
              have A25 := mkA A250
              clear A250
              by_cases c26 : (((t353 ++ (⟨#[44, 32]⟩ : ByteArray)) ++ t356) ++ (⟨#[32]⟩ : ByteArray)).size + t361.size ≤ 9223372036854775807
              ·rw [if_pos c26] at H
               have c26b0 := eq_true c26
               have c26b1 : decide ((((t353 ++ (⟨#[44, 32]⟩ : ByteArray)) ++ t356) ++ (⟨#[32]⟩ : ByteArray)).size + t361.size ≤ 9223372036854775807) = true := decide_eq_true c26
               try have c26b2 : (9223372036854775807 < (((t353 ++ (⟨#[44, 32]⟩ : ByteArray)) ++ t356) ++ (⟨#[32]⟩ : ByteArray)).size + t361.size) = False := eq_false (Nat.not_lt.2 c26)
               have c26z : (9223372036854775807 < t353.size + 2 + t356.size + 1 + t361.size) = False := eq_false (Nat.not_lt.2 (by have h8 := c26; (try simp only [ByteArray.size_append] at h8); exact h8))
               by_cases c27 : ((((t353 ++ (⟨#[44, 32]⟩ : ByteArray)) ++ t356) ++ (⟨#[32]⟩ : ByteArray)) ++ t361).size + 1 ≤ 9223372036854775807
               ·rw [if_pos c27] at H
                have c27b0 := eq_true c27
                have c27b1 : decide (((((t353 ++ (⟨#[44, 32]⟩ : ByteArray)) ++ t356) ++ (⟨#[32]⟩ : ByteArray)) ++ t361).size + 1 ≤ 9223372036854775807) = true := decide_eq_true c27
                try have c27b2 : (9223372036854775807 < ((((t353 ++ (⟨#[44, 32]⟩ : ByteArray)) ++ t356) ++ (⟨#[32]⟩ : ByteArray)) ++ t361).size + 1) = False := eq_false (Nat.not_lt.2 c27)
                have c27z : (9223372036854775807 < t353.size + 2 + t356.size + 1 + t361.size + 1) = False := eq_false (Nat.not_lt.2 (by have h8 := c27; (try simp only [ByteArray.size_append] at h8); exact h8))
                replace H := Option.bind_eq_some_iff.mp H
                obtain ⟨t362, A280, H⟩ := H
                replace H : (if (((((t353 ++ (⟨#[44, 32]⟩ : ByteArray)) ++ t356) ++ (⟨#[32]⟩ : ByteArray)) ++ t361) ++ (⟨#[32]⟩ : ByteArray)).size + t362.size ≤ 9223372036854775807 then (if ((((((t353 ++ (⟨#[44, 32]⟩ : ByteArray)) ++ t356) ++ (⟨#[32]⟩ : ByteArray)) ++ t361) ++ (⟨#[32]⟩ : ByteArray)) ++ t362).size + 1 ≤ 9223372036854775807 then ((newsreelref17_two.f k2 (wrap64 (Int.tdiv (Int.tmod a0 86400) 3600))).bind fun t363 => (if (((((((t353 ++ (⟨#[44, 32]⟩ : ByteArray)) ++ t356) ++ (⟨#[32]⟩ : ByteArray)) ++ t361) ++ (⟨#[32]⟩ : ByteArray)) ++ t362) ++ (⟨#[32]⟩ : ByteArray)).size + t363.size ≤ 9223372036854775807 then (if ((((((((t353 ++ (⟨#[44, 32]⟩ : ByteArray)) ++ t356) ++ (⟨#[32]⟩ : ByteArray)) ++ t361) ++ (⟨#[32]⟩ : ByteArray)) ++ t362) ++ (⟨#[32]⟩ : ByteArray)) ++ t363).size + 1 ≤ 9223372036854775807 then ((newsreelref17_two.f k2 (wrap64 (Int.tdiv (Int.tmod a0 3600) 60))).bind fun t364 => (if (((((((((t353 ++ (⟨#[44, 32]⟩ : ByteArray)) ++ t356) ++ (⟨#[32]⟩ : ByteArray)) ++ t361) ++ (⟨#[32]⟩ : ByteArray)) ++ t362) ++ (⟨#[32]⟩ : ByteArray)) ++ t363) ++ (⟨#[58]⟩ : ByteArray)).size + t364.size ≤ 9223372036854775807 then (if ((((((((((t353 ++ (⟨#[44, 32]⟩ : ByteArray)) ++ t356) ++ (⟨#[32]⟩ : ByteArray)) ++ t361) ++ (⟨#[32]⟩ : ByteArray)) ++ t362) ++ (⟨#[32]⟩ : ByteArray)) ++ t363) ++ (⟨#[58]⟩ : ByteArray)) ++ t364).size + 1 ≤ 9223372036854775807 then ((newsreelref17_two.f k2 (Int.tmod a0 60)).bind fun t365 => (if (((((((((((t353 ++ (⟨#[44, 32]⟩ : ByteArray)) ++ t356) ++ (⟨#[32]⟩ : ByteArray)) ++ t361) ++ (⟨#[32]⟩ : ByteArray)) ++ t362) ++ (⟨#[32]⟩ : ByteArray)) ++ t363) ++ (⟨#[58]⟩ : ByteArray)) ++ t364) ++ (⟨#[58]⟩ : ByteArray)).size + t365.size ≤ 9223372036854775807 then (if ((((((((((((t353 ++ (⟨#[44, 32]⟩ : ByteArray)) ++ t356) ++ (⟨#[32]⟩ : ByteArray)) ++ t361) ++ (⟨#[32]⟩ : ByteArray)) ++ t362) ++ (⟨#[32]⟩ : ByteArray)) ++ t363) ++ (⟨#[58]⟩ : ByteArray)) ++ t364) ++ (⟨#[58]⟩ : ByteArray)) ++ t365).size + 4 ≤ 9223372036854775807 then (some (((((((((((((t353 ++ (⟨#[44, 32]⟩ : ByteArray)) ++ t356) ++ (⟨#[32]⟩ : ByteArray)) ++ t361) ++ (⟨#[32]⟩ : ByteArray)) ++ t362) ++ (⟨#[32]⟩ : ByteArray)) ++ t363) ++ (⟨#[58]⟩ : ByteArray)) ++ t364) ++ (⟨#[58]⟩ : ByteArray)) ++ t365) ++ (⟨#[32, 71, 77, 84]⟩ : ByteArray), 0)) else (none)) else (none))) else (none)) else (none))) else (none)) else (none))) else (none)) else (none)) = some (r1, r2) := H
                have A28 := mkA A280
                clear A280
                by_cases c29 : (((((t353 ++ (⟨#[44, 32]⟩ : ByteArray)) ++ t356) ++ (⟨#[32]⟩ : ByteArray)) ++ t361) ++ (⟨#[32]⟩ : ByteArray)).size + t362.size ≤ 9223372036854775807
                ·rw [if_pos c29] at H
                 have c29b0 := eq_true c29
                 have c29b1 : decide ((((((t353 ++ (⟨#[44, 32]⟩ : ByteArray)) ++ t356) ++ (⟨#[32]⟩ : ByteArray)) ++ t361) ++ (⟨#[32]⟩ : ByteArray)).size + t362.size ≤ 9223372036854775807) = true := decide_eq_true c29
                 try have c29b2 : (9223372036854775807 < (((((t353 ++ (⟨#[44, 32]⟩ : ByteArray)) ++ t356) ++ (⟨#[32]⟩ : ByteArray)) ++ t361) ++ (⟨#[32]⟩ : ByteArray)).size + t362.size) = False := eq_false (Nat.not_lt.2 c29)
                 have c29z : (9223372036854775807 < t353.size + 2 + t356.size + 1 + t361.size + 1 + t362.size) = False := eq_false (Nat.not_lt.2 (by have h8 := c29; (try simp only [ByteArray.size_append] at h8); exact h8))
                 by_cases c30 : ((((((t353 ++ (⟨#[44, 32]⟩ : ByteArray)) ++ t356) ++ (⟨#[32]⟩ : ByteArray)) ++ t361) ++ (⟨#[32]⟩ : ByteArray)) ++ t362).size + 1 ≤ 9223372036854775807
                 ·rw [if_pos c30] at H
                  have c30b0 := eq_true c30
                  have c30b1 : decide (((((((t353 ++ (⟨#[44, 32]⟩ : ByteArray)) ++ t356) ++ (⟨#[32]⟩ : ByteArray)) ++ t361) ++ (⟨#[32]⟩ : ByteArray)) ++ t362).size + 1 ≤ 9223372036854775807) = true := decide_eq_true c30
                  try have c30b2 : (9223372036854775807 < ((((((t353 ++ (⟨#[44, 32]⟩ : ByteArray)) ++ t356) ++ (⟨#[32]⟩ : ByteArray)) ++ t361) ++ (⟨#[32]⟩ : ByteArray)) ++ t362).size + 1) = False := eq_false (Nat.not_lt.2 c30)
                  have c30z : (9223372036854775807 < t353.size + 2 + t356.size + 1 + t361.size + 1 + t362.size + 1) = False := eq_false (Nat.not_lt.2 (by have h8 := c30; (try simp only [ByteArray.size_append] at h8); exact h8))
                  replace H := Option.bind_eq_some_iff.mp H
                  obtain ⟨t363, A310, H⟩ := H
                  replace H : (if (((((((t353 ++ (⟨#[44, 32]⟩ : ByteArray)) ++ t356) ++ (⟨#[32]⟩ : ByteArray)) ++ t361) ++ (⟨#[32]⟩ : ByteArray)) ++ t362) ++ (⟨#[32]⟩ : ByteArray)).size + t363.size ≤ 9223372036854775807 then (if ((((((((t353 ++ (⟨#[44, 32]⟩ : ByteArray)) ++ t356) ++ (⟨#[32]⟩ : ByteArray)) ++ t361) ++ (⟨#[32]⟩ : ByteArray)) ++ t362) ++ (⟨#[32]⟩ : ByteArray)) ++ t363).size + 1 ≤ 9223372036854775807 then ((newsreelref17_two.f k2 (wrap64 (Int.tdiv (Int.tmod a0 3600) 60))).bind fun t364 => (if (((((((((t353 ++ (⟨#[44, 32]⟩ : ByteArray)) ++ t356) ++ (⟨#[32]⟩ : ByteArray)) ++ t361) ++ (⟨#[32]⟩ : ByteArray)) ++ t362) ++ (⟨#[32]⟩ : ByteArray)) ++ t363) ++ (⟨#[58]⟩ : ByteArray)).size + t364.size ≤ 9223372036854775807 then (if ((((((((((t353 ++ (⟨#[44, 32]⟩ : ByteArray)) ++ t356) ++ (⟨#[32]⟩ : ByteArray)) ++ t361) ++ (⟨#[32]⟩ : ByteArray)) ++ t362) ++ (⟨#[32]⟩ : ByteArray)) ++ t363) ++ (⟨#[58]⟩ : ByteArray)) ++ t364).size + 1 ≤ 9223372036854775807 then ((newsreelref17_two.f k2 (Int.tmod a0 60)).bind fun t365 => (if (((((((((((t353 ++ (⟨#[44, 32]⟩ : ByteArray)) ++ t356) ++ (⟨#[32]⟩ : ByteArray)) ++ t361) ++ (⟨#[32]⟩ : ByteArray)) ++ t362) ++ (⟨#[32]⟩ : ByteArray)) ++ t363) ++ (⟨#[58]⟩ : ByteArray)) ++ t364) ++ (⟨#[58]⟩ : ByteArray)).size + t365.size ≤ 9223372036854775807 then (if ((((((((((((t353 ++ (⟨#[44, 32]⟩ : ByteArray)) ++ t356) ++ (⟨#[32]⟩ : ByteArray)) ++ t361) ++ (⟨#[32]⟩ : ByteArray)) ++ t362) ++ (⟨#[32]⟩ : ByteArray)) ++ t363) ++ (⟨#[58]⟩ : ByteArray)) ++ t364) ++ (⟨#[58]⟩ : ByteArray)) ++ t365).size + 4 ≤ 9223372036854775807 then (some (((((((((((((t353 ++ (⟨#[44, 32]⟩ : ByteArray)) ++ t356) ++ (⟨#[32]⟩ : ByteArray)) ++ t361) ++ (⟨#[32]⟩ : ByteArray)) ++ t362) ++ (⟨#[32]⟩ : ByteArray)) ++ t363) ++ (⟨#[58]⟩ : ByteArray)) ++ t364) ++ (⟨#[58]⟩ : ByteArray)) ++ t365) ++ (⟨#[32, 71, 77, 84]⟩ : ByteArray), 0)) else (none)) else (none))) else (none)) else (none))) else (none)) else (none)) = some (r1, r2) := H
                  have A31 := mkA A310
                  clear A310
                  by_cases c32 : (((((((t353 ++ (⟨#[44, 32]⟩ : ByteArray)) ++ t356) ++ (⟨#[32]⟩ : ByteArray)) ++ t361) ++ (⟨#[32]⟩ : ByteArray)) ++ t362) ++ (⟨#[32]⟩ : ByteArray)).size + t363.size ≤ 9223372036854775807
                  ·rw [if_pos c32] at H
                   have c32b0 := eq_true c32
                   have c32b1 : decide ((((((((t353 ++ (⟨#[44, 32]⟩ : ByteArray)) ++ t356) ++ (⟨#[32]⟩ : ByteArray)) ++ t361) ++ (⟨#[32]⟩ : ByteArray)) ++ t362) ++ (⟨#[32]⟩ : ByteArray)).size + t363.size ≤ 9223372036854775807) = true := decide_eq_true c32
                   try have c32b2 : (9223372036854775807 < (((((((t353 ++ (⟨#[44, 32]⟩ : ByteArray)) ++ t356) ++ (⟨#[32]⟩ : ByteArray)) ++ t361) ++ (⟨#[32]⟩ : ByteArray)) ++ t362) ++ (⟨#[32]⟩ : ByteArray)).size + t363.size) = False := eq_false (Nat.not_lt.2 c32)
                   have c32z : (9223372036854775807 < t353.size + 2 + t356.size + 1 + t361.size + 1 + t362.size + 1 + t363.size) = False := eq_false (Nat.not_lt.2 (by have h8 := c32; (try simp only [ByteArray.size_append] at h8); exact h8))
                   by_cases c33 : ((((((((t353 ++ (⟨#[44, 32]⟩ : ByteArray)) ++ t356) ++ (⟨#[32]⟩ : ByteArray)) ++ t361) ++ (⟨#[32]⟩ : ByteArray)) ++ t362) ++ (⟨#[32]⟩ : ByteArray)) ++ t363).size + 1 ≤ 9223372036854775807
                   ·rw [if_pos c33] at H
                    have c33b0 := eq_true c33
                    have c33b1 : decide (((((((((t353 ++ (⟨#[44, 32]⟩ : ByteArray)) ++ t356) ++ (⟨#[32]⟩ : ByteArray)) ++ t361) ++ (⟨#[32]⟩ : ByteArray)) ++ t362) ++ (⟨#[32]⟩ : ByteArray)) ++ t363).size + 1 ≤ 9223372036854775807) = true := decide_eq_true c33
                    try have c33b2 : (9223372036854775807 < ((((((((t353 ++ (⟨#[44, 32]⟩ : ByteArray)) ++ t356) ++ (⟨#[32]⟩ : ByteArray)) ++ t361) ++ (⟨#[32]⟩ : ByteArray)) ++ t362) ++ (⟨#[32]⟩ : ByteArray)) ++ t363).size + 1) = False := eq_false (Nat.not_lt.2 c33)
                    have c33z : (9223372036854775807 < t353.size + 2 + t356.size + 1 + t361.size + 1 + t362.size + 1 + t363.size + 1) = False := eq_false (Nat.not_lt.2 (by have h8 := c33; (try simp only [ByteArray.size_append] at h8); exact h8))
                    replace H := Option.bind_eq_some_iff.mp H
                    obtain ⟨t364, A340, H⟩ := H
                    replace H : (if (((((((((t353 ++ (⟨#[44, 32]⟩ : ByteArray)) ++ t356) ++ (⟨#[32]⟩ : ByteArray)) ++ t361) ++ (⟨#[32]⟩ : ByteArray)) ++ t362) ++ (⟨#[32]⟩ : ByteArray)) ++ t363) ++ (⟨#[58]⟩ : ByteArray)).size + t364.size ≤ 9223372036854775807 then (if ((((((((((t353 ++ (⟨#[44, 32]⟩ : ByteArray)) ++ t356) ++ (⟨#[32]⟩ : ByteArray)) ++ t361) ++ (⟨#[32]⟩ : ByteArray)) ++ t362) ++ (⟨#[32]⟩ : ByteArray)) ++ t363) ++ (⟨#[58]⟩ : ByteArray)) ++ t364).size + 1 ≤ 9223372036854775807 then ((newsreelref17_two.f k2 (Int.tmod a0 60)).bind fun t365 => (if (((((((((((t353 ++ (⟨#[44, 32]⟩ : ByteArray)) ++ t356) ++ (⟨#[32]⟩ : ByteArray)) ++ t361) ++ (⟨#[32]⟩ : ByteArray)) ++ t362) ++ (⟨#[32]⟩ : ByteArray)) ++ t363) ++ (⟨#[58]⟩ : ByteArray)) ++ t364) ++ (⟨#[58]⟩ : ByteArray)).size + t365.size ≤ 9223372036854775807 then (if ((((((((((((t353 ++ (⟨#[44, 32]⟩ : ByteArray)) ++ t356) ++ (⟨#[32]⟩ : ByteArray)) ++ t361) ++ (⟨#[32]⟩ : ByteArray)) ++ t362) ++ (⟨#[32]⟩ : ByteArray)) ++ t363) ++ (⟨#[58]⟩ : ByteArray)) ++ t364) ++ (⟨#[58]⟩ : ByteArray)) ++ t365).size + 4 ≤ 9223372036854775807 then (some (((((((((((((t353 ++ (⟨#[44, 32]⟩ : ByteArray)) ++ t356) ++ (⟨#[32]⟩ : ByteArray)) ++ t361) ++ (⟨#[32]⟩ : ByteArray)) ++ t362) ++ (⟨#[32]⟩ : ByteArray)) ++ t363) ++ (⟨#[58]⟩ : ByteArray)) ++ t364) ++ (⟨#[58]⟩ : ByteArray)) ++ t365) ++ (⟨#[32, 71, 77, 84]⟩ : ByteArray), 0)) else (none)) else (none))) else (none)) else (none)) = some (r1, r2) := H
                    have A34 := mkA A340
                    clear A340
                    by_cases c35 : (((((((((t353 ++ (⟨#[44, 32]⟩ : ByteArray)) ++ t356) ++ (⟨#[32]⟩ : ByteArray)) ++ t361) ++ (⟨#[32]⟩ : ByteArray)) ++ t362) ++ (⟨#[32]⟩ : ByteArray)) ++ t363) ++ (⟨#[58]⟩ : ByteArray)).size + t364.size ≤ 9223372036854775807
                    ·rw [if_pos c35] at H
                     have c35b0 := eq_true c35
                     have c35b1 : decide ((((((((((t353 ++ (⟨#[44, 32]⟩ : ByteArray)) ++ t356) ++ (⟨#[32]⟩ : ByteArray)) ++ t361) ++ (⟨#[32]⟩ : ByteArray)) ++ t362) ++ (⟨#[32]⟩ : ByteArray)) ++ t363) ++ (⟨#[58]⟩ : ByteArray)).size + t364.size ≤ 9223372036854775807) = true := decide_eq_true c35
                     try have c35b2 : (9223372036854775807 < (((((((((t353 ++ (⟨#[44, 32]⟩ : ByteArray)) ++ t356) ++ (⟨#[32]⟩ : ByteArray)) ++ t361) ++ (⟨#[32]⟩ : ByteArray)) ++ t362) ++ (⟨#[32]⟩ : ByteArray)) ++ t363) ++ (⟨#[58]⟩ : ByteArray)).size + t364.size) = False := eq_false (Nat.not_lt.2 c35)
                     have c35z : (9223372036854775807 < t353.size + 2 + t356.size + 1 + t361.size + 1 + t362.size + 1 + t363.size + 1 + t364.size) = False := eq_false (Nat.not_lt.2 (by have h8 := c35; (try simp only [ByteArray.size_append] at h8); exact h8))
                     by_cases c36 : ((((((((((t353 ++ (⟨#[44, 32]⟩ : ByteArray)) ++ t356) ++ (⟨#[32]⟩ : ByteArray)) ++ t361) ++ (⟨#[32]⟩ : ByteArray)) ++ t362) ++ (⟨#[32]⟩ : ByteArray)) ++ t363) ++ (⟨#[58]⟩ : ByteArray)) ++ t364).size + 1 ≤ 9223372036854775807
                     ·rw [if_pos c36] at H
                      have c36b0 := eq_true c36
                      have c36b1 : decide (((((((((((t353 ++ (⟨#[44, 32]⟩ : ByteArray)) ++ t356) ++ (⟨#[32]⟩ : ByteArray)) ++ t361) ++ (⟨#[32]⟩ : ByteArray)) ++ t362) ++ (⟨#[32]⟩ : ByteArray)) ++ t363) ++ (⟨#[58]⟩ : ByteArray)) ++ t364).size + 1 ≤ 9223372036854775807) = true := decide_eq_true c36
                      try have c36b2 : (9223372036854775807 < ((((((((((t353 ++ (⟨#[44, 32]⟩ : ByteArray)) ++ t356) ++ (⟨#[32]⟩ : ByteArray)) ++ t361) ++ (⟨#[32]⟩ : ByteArray)) ++ t362) ++ (⟨#[32]⟩ : ByteArray)) ++ t363) ++ (⟨#[58]⟩ : ByteArray)) ++ t364).size + 1) = False := eq_false (Nat.not_lt.2 c36)
                      have c36z : (9223372036854775807 < t353.size + 2 + t356.size + 1 + t361.size + 1 + t362.size + 1 + t363.size + 1 + t364.size + 1) = False := eq_false (Nat.not_lt.2 (by have h8 := c36; (try simp only [ByteArray.size_append] at h8); exact h8))
                      replace H := Option.bind_eq_some_iff.mp H
                      obtain ⟨t365, A370, H⟩ := H
                      replace H : (if (((((((((((t353 ++ (⟨#[44, 32]⟩ : ByteArray)) ++ t356) ++ (⟨#[32]⟩ : ByteArray)) ++ t361) ++ (⟨#[32]⟩ : ByteArray)) ++ t362) ++ (⟨#[32]⟩ : ByteArray)) ++ t363) ++ (⟨#[58]⟩ : ByteArray)) ++ t364) ++ (⟨#[58]⟩ : ByteArray)).size + t365.size ≤ 9223372036854775807 then (if ((((((((((((t353 ++ (⟨#[44, 32]⟩ : ByteArray)) ++ t356) ++ (⟨#[32]⟩ : ByteArray)) ++ t361) ++ (⟨#[32]⟩ : ByteArray)) ++ t362) ++ (⟨#[32]⟩ : ByteArray)) ++ t363) ++ (⟨#[58]⟩ : ByteArray)) ++ t364) ++ (⟨#[58]⟩ : ByteArray)) ++ t365).size + 4 ≤ 9223372036854775807 then (some (((((((((((((t353 ++ (⟨#[44, 32]⟩ : ByteArray)) ++ t356) ++ (⟨#[32]⟩ : ByteArray)) ++ t361) ++ (⟨#[32]⟩ : ByteArray)) ++ t362) ++ (⟨#[32]⟩ : ByteArray)) ++ t363) ++ (⟨#[58]⟩ : ByteArray)) ++ t364) ++ (⟨#[58]⟩ : ByteArray)) ++ t365) ++ (⟨#[32, 71, 77, 84]⟩ : ByteArray), 0)) else (none)) else (none)) = some (r1, r2) := H
                      have A37 := mkA A370
                      clear A370
                      by_cases c38 : (((((((((((t353 ++ (⟨#[44, 32]⟩ : ByteArray)) ++ t356) ++ (⟨#[32]⟩ : ByteArray)) ++ t361) ++ (⟨#[32]⟩ : ByteArray)) ++ t362) ++ (⟨#[32]⟩ : ByteArray)) ++ t363) ++ (⟨#[58]⟩ : ByteArray)) ++ t364) ++ (⟨#[58]⟩ : ByteArray)).size + t365.size ≤ 9223372036854775807
                      ·rw [if_pos c38] at H
                       have c38b0 := eq_true c38
                       have c38b1 : decide ((((((((((((t353 ++ (⟨#[44, 32]⟩ : ByteArray)) ++ t356) ++ (⟨#[32]⟩ : ByteArray)) ++ t361) ++ (⟨#[32]⟩ : ByteArray)) ++ t362) ++ (⟨#[32]⟩ : ByteArray)) ++ t363) ++ (⟨#[58]⟩ : ByteArray)) ++ t364) ++ (⟨#[58]⟩ : ByteArray)).size + t365.size ≤ 9223372036854775807) = true := decide_eq_true c38
                       try have c38b2 : (9223372036854775807 < (((((((((((t353 ++ (⟨#[44, 32]⟩ : ByteArray)) ++ t356) ++ (⟨#[32]⟩ : ByteArray)) ++ t361) ++ (⟨#[32]⟩ : ByteArray)) ++ t362) ++ (⟨#[32]⟩ : ByteArray)) ++ t363) ++ (⟨#[58]⟩ : ByteArray)) ++ t364) ++ (⟨#[58]⟩ : ByteArray)).size + t365.size) = False := eq_false (Nat.not_lt.2 c38)
                       have c38z : (9223372036854775807 < t353.size + 2 + t356.size + 1 + t361.size + 1 + t362.size + 1 + t363.size + 1 + t364.size + 1 + t365.size) = False := eq_false (Nat.not_lt.2 (by have h8 := c38; (try simp only [ByteArray.size_append] at h8); exact h8))
                       by_cases c39 : ((((((((((((t353 ++ (⟨#[44, 32]⟩ : ByteArray)) ++ t356) ++ (⟨#[32]⟩ : ByteArray)) ++ t361) ++ (⟨#[32]⟩ : ByteArray)) ++ t362) ++ (⟨#[32]⟩ : ByteArray)) ++ t363) ++ (⟨#[58]⟩ : ByteArray)) ++ t364) ++ (⟨#[58]⟩ : ByteArray)) ++ t365).size + 4 ≤ 9223372036854775807
                       ·rw [if_pos c39] at H
                        have c39b0 := eq_true c39
                        have c39b1 : decide (((((((((((((t353 ++ (⟨#[44, 32]⟩ : ByteArray)) ++ t356) ++ (⟨#[32]⟩ : ByteArray)) ++ t361) ++ (⟨#[32]⟩ : ByteArray)) ++ t362) ++ (⟨#[32]⟩ : ByteArray)) ++ t363) ++ (⟨#[58]⟩ : ByteArray)) ++ t364) ++ (⟨#[58]⟩ : ByteArray)) ++ t365).size + 4 ≤ 9223372036854775807) = true := decide_eq_true c39
                        try have c39b2 : (9223372036854775807 < ((((((((((((t353 ++ (⟨#[44, 32]⟩ : ByteArray)) ++ t356) ++ (⟨#[32]⟩ : ByteArray)) ++ t361) ++ (⟨#[32]⟩ : ByteArray)) ++ t362) ++ (⟨#[32]⟩ : ByteArray)) ++ t363) ++ (⟨#[58]⟩ : ByteArray)) ++ t364) ++ (⟨#[58]⟩ : ByteArray)) ++ t365).size + 4) = False := eq_false (Nat.not_lt.2 c39)
                        have c39z : (9223372036854775807 < t353.size + 2 + t356.size + 1 + t361.size + 1 + t362.size + 1 + t363.size + 1 + t364.size + 1 + t365.size + 4) = False := eq_false (Nat.not_lt.2 (by have h8 := c39; (try simp only [ByteArray.size_append] at h8); exact h8))
                        as_aux_lemma =>
                         simp only [Option.some.injEq, Prod.mk.injEq] at H
                         obtain ⟨rfl, rfl⟩ := H
                         go_wp2_with (first | ((with_reducible refine gate_callee (f := 11) rfl ?_); refine goesL_ (some 25) rfl rfl Tryd.func11 (by kernel_rfl) rfl #[.int .i64 x6_2, .int .i64 x7_2] rfl ca ?_; (with_reducible refine (newsreelref17_Days.calls k2 x6_2 x7_2 t354 _ A13.out).mono ?_); rintro e w' ⟨rfl, ⟨nd, rfl⟩⟩; refine ⟨_, rfl, ?_⟩) | ((with_reducible refine gate_callee (f := 26) rfl ?_); refine goesL_ (some 42) rfl rfl Tryd.func26 (by kernel_rfl) rfl #[.int .i64 (wrap64 (x4_2 + 1))] rfl ca ?_; (with_reducible refine (newsreelref17_two.calls k2 (wrap64 (x4_2 + 1)) t356 _ A18.out).mono ?_); rintro e w' ⟨rfl, ⟨nd, rfl⟩⟩; refine ⟨_, rfl, ?_⟩) | ((with_reducible refine gate_callee (f := 25) rfl ?_); refine goesL_ (some 45) rfl rfl Tryd.func25 (by kernel_rfl) rfl #[.bool false] rfl ca ?_; (with_reducible refine (newsreelref17_names.calls false t357 _ A21.out).mono ?_); rintro e w40 ⟨v358, rfl, ho0, hb⟩; refine ⟨_, rfl, ?_⟩; have n0_ := mkA (Kd.R_lower ho0 (below_size (below_y HB.out))); have n1_ := mkA (below_step (below_y HB.out) hb); clear HB; have HO359 := n0_; have HB := n1_; clear n0_ n1_; (try clear hb); (try clear hb2); (try clear hk); (try clear hi); (try clear ho0); obtain ⟨Ao41, co41, eo41⟩ := Kd.R_slice HO359.out; subst eo41; have p360 : 0 ≤ ((ji22) : Int) := odt; have q360 : (ji22) < (t357.length : Int) := odt; obtain ⟨ad360, e360, hx360_0⟩ := Kd.at_string (Kd.R_reads' HO359.out).2.2 (ji22) p360 q360; cases e360; replace p360 := eq_true p360; replace q360 := eq_true q360) | ((with_reducible refine gate_callee (f := 24) rfl ?_); refine goesL_ (some 50) rfl rfl Tryd.func24 (by kernel_rfl) rfl #[.string (rdOf ByteArray.empty t357 (ji22))] rfl (by (try simp only [List.map_toArray, List.map_cons, List.map_nil]); first | done | (simp only [hji22]; rfl) | rfl | (simp only [List.length_drop, List.length_take]; rfl)) ?_; (with_reducible refine (newsreelref17_great.calls (rdOf ByteArray.empty t357 (ji22)) t361 _ A25.out).mono ?_); rintro e w42 ⟨rfl, hb⟩; refine ⟨_, rfl, ?_⟩; have n0_ := mkA (Kd.R_below (Kd.R_y HO359.out) hb); have n1_ := mkA (below_step (below_y HB.out) hb); clear HO359; clear HB; have HO359 := n0_; have HB := n1_; clear n0_ n1_; (try clear hb); (try clear hb2); (try clear hk); (try clear hi)) | ((with_reducible refine gate_callee (f := 27) rfl ?_); refine goesL_ (some 54) rfl rfl Tryd.func27 (by kernel_rfl) rfl #[.int .i64 x6_2] rfl ca ?_; (with_reducible refine (newsreelref01_Put.calls k2 x6_2 t362 _ A28.out).mono ?_); rintro e w' ⟨rfl, ⟨nd, rfl⟩⟩; refine ⟨_, rfl, ?_⟩) | ((with_reducible refine gate_callee (f := 26) rfl ?_); refine goesL_ (some 60) rfl rfl Tryd.func26 (by kernel_rfl) rfl #[.int .i64 (wrap64 (Int.tdiv (Int.tmod a0 86400) 3600))] rfl ca ?_; (with_reducible refine (newsreelref17_two.calls k2 (wrap64 (Int.tdiv (Int.tmod a0 86400) 3600)) t363 _ A31.out).mono ?_); rintro e w' ⟨rfl, ⟨nd, rfl⟩⟩; refine ⟨_, rfl, ?_⟩) | ((with_reducible refine gate_callee (f := 26) rfl ?_); refine goesL_ (some 66) rfl rfl Tryd.func26 (by kernel_rfl) rfl #[.int .i64 (wrap64 (Int.tdiv (Int.tmod a0 3600) 60))] rfl ca ?_; (with_reducible refine (newsreelref17_two.calls k2 (wrap64 (Int.tdiv (Int.tmod a0 3600) 60)) t364 _ A34.out).mono ?_); rintro e w' ⟨rfl, ⟨nd, rfl⟩⟩; refine ⟨_, rfl, ?_⟩) | ((with_reducible refine gate_callee (f := 26) rfl ?_); refine goesL_ (some 71) rfl rfl Tryd.func26 (by kernel_rfl) rfl #[.int .i64 (Int.tmod a0 60)] rfl ca ?_; (with_reducible refine (newsreelref17_two.calls k2 (Int.tmod a0 60) t365 _ A37.out).mono ?_); rintro e w' ⟨rfl, ⟨nd, rfl⟩⟩; refine ⟨_, rfl, ?_⟩))
                         go_ret2
                         exact ⟨by first | rfl | (simp [errW_none, errW_some] <;> rfl) | (simp only [← hji6, ← hji22]; first | rfl | (simp [errW_none, errW_some] <;> rfl)) | (simp [*, errW_none, errW_some] <;> rfl), below_y HB.out⟩
                       ·rw [if_neg c39] at H
                        exact absurd H (by simp)
                      ·rw [if_neg c38] at H
                       exact absurd H (by simp)
                     ·rw [if_neg c36] at H
                      exact absurd H (by simp)
                    ·rw [if_neg c35] at H
                     exact absurd H (by simp)
                   ·rw [if_neg c33] at H
                    exact absurd H (by simp)
                  ·rw [if_neg c32] at H
                   exact absurd H (by simp)
                 ·rw [if_neg c30] at H
                  exact absurd H (by simp)
                ·rw [if_neg c29] at H
                 exact absurd H (by simp)
               ·rw [if_neg c27] at H
                exact absurd H (by simp)
              ·rw [if_neg c26] at H
               exact absurd H (by simp)
             ·rw [if_neg c24] at H
              exact absurd H (by simp)
            ·rw [if_neg c23] at H
             exact absurd H (by simp)
           ·rw [if_neg c20] at H
            exact absurd H (by simp)
          ·rw [if_neg c19] at H
           exact absurd H (by simp)
         ·rw [if_neg c17] at H
          exact absurd H (by simp)
     ·rw [if_neg c8] at H
      exact absurd H (by simp)
    ·rw [if_neg c7] at H
     exact absurd H (by simp)

end Go.Proofs.YtghdkpcpgpfgcaaDoor.XStb
