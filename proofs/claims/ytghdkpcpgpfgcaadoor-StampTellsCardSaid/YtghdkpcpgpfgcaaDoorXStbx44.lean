import Derived.Test.YtghdkpcpgpfgcaaDoorXStbM0a
import Derived.Test.YtghdkpcpgpfgcaaDoorXStbM0b
namespace Go.Proofs.YtghdkpcpgpfgcaaDoor.XStb
open Go.RowKit Go.Proofs.YtghdkpcpgpfgcaaDoorW.PrintWords Go.Proofs.YtghdkpcpgpfgcaaDoorW.PrintLast Go.Proofs.YtghdkpcpgpfgcaaDoorW.PrintMore
attribute [local go_sem] max2_int min2_int max_two min_two max_three min_three max_four min_four   -- for this text's walks alone
set_option linter.unusedVariables false
set_option linter.unusedSimpArgs false

/-! ### newsreelref17_zone: function 40 -/
mutual
def newsreelref17_zone.j0 : Nat → ByteArray → ByteArray → Bool → Option (Int × Bool × Bool)
 | 0, _, _, _ => none
 | k + 1, x0, x5, x26 => if x26 = true then (some (0, true, true)) else (newsreelref17_zone.l0 k x0 x5 (([(⟨#[101, 100, 116]⟩ : ByteArray), (⟨#[101, 115, 116]⟩ : ByteArray), (⟨#[99, 100, 116]⟩ : ByteArray), (⟨#[99, 115, 116]⟩ : ByteArray), (⟨#[109, 100, 116]⟩ : ByteArray), (⟨#[109, 115, 116]⟩ : ByteArray), (⟨#[112, 100, 116]⟩ : ByteArray), (⟨#[112, 115, 116]⟩ : ByteArray)] : List ByteArray)) (([4, 5, 5, 6, 6, 7, 7, 8] : List Int)) 0)
def newsreelref17_zone.l0 : Nat → ByteArray → ByteArray → List ByteArray → List Int → Int → Option (Int × Bool × Bool)
 | 0, _, _, _, _, _ => none
 | k + 1, x0, x5, x6, x7, x8 => if x8 < (x6.length : Int) then (if 0 ≤ x8 then (if (rdOf ByteArray.empty x6 x8).toList = x5.toList then (if x8 < (x7.length : Int) then (some (wrap64 ((-60) * (rd x7 x8)), true, true)) else (none)) else (newsreelref17_zone.l0 k x0 x5 x6 x7 (wrap64 (x8 + 1)))) else (none)) else (if (x0.size : Int) = 5 then (if 0 < (x0.size : Int) then (if (bt x0 0) = 43 then (if 1 ≤ (x0.size : Int) then ((newsreelref17_Number.f k (x0.extract 1 x0.size) 4).bind fun t275 => (newsreelref17_zone.j2 k x0 (decide (t275 < 0)))) else (none)) else (if (bt x0 0) = 45 then (if 1 ≤ (x0.size : Int) then ((newsreelref17_Number.f k (x0.extract 1 x0.size) 4).bind fun t276 => (newsreelref17_zone.j2 k x0 (decide (t276 < 0)))) else (none)) else (newsreelref17_zone.j2 k x0 true))) else (none)) else (newsreelref17_zone.j2 k x0 true))
def newsreelref17_zone.j2 : Nat → ByteArray → Bool → Option (Int × Bool × Bool)
 | 0, _, _ => none
 | k + 1, x0, x64 => if x64 = true then (some (0, false, false)) else (if 1 ≤ 3 then (if 3 ≤ (x0.size : Int) then ((newsreelref17_Number.f k (x0.extract 1 3) 2).bind fun t277 => ((newsreelref17_Number.f k (x0.extract 3 x0.size) 2).bind fun t278 => (if 0 < (x0.size : Int) then (if (bt x0 0) = 45 then (if t277 ≤ 23 then (some (wrap64 ((wrap64 ((-60) * t277)) - t278), decide (t278 ≤ 59), true)) else (some (wrap64 ((wrap64 ((-60) * t277)) - t278), false, true))) else (if t277 ≤ 23 then (some (wrap64 ((wrap64 (60 * t277)) + t278), decide (t278 ≤ 59), true)) else (some (wrap64 ((wrap64 (60 * t277)) + t278), false, true)))) else (none)))) else (none)) else (none))
end
def newsreelref17_zone.f (k : Nat) (a0 : ByteArray) : Option (Int × Bool × Bool) := (newsreelref02_Lower.f k a0).bind fun t266 => (if t266.toList = ([103, 109, 116] : List UInt8) then (newsreelref17_zone.j0 k a0 t266 true) else (if t266.toList = ([117, 116] : List UInt8) then (newsreelref17_zone.j0 k a0 t266 true) else (if t266.toList = ([117, 116, 99] : List UInt8) then (newsreelref17_zone.j0 k a0 t266 true) else (newsreelref17_zone.j0 k a0 t266 (t266.toList == ([122] : List UInt8))))))
theorem newsreelref17_zone.mono_l : ∀ k, (∀ y0 y1 y2, LeO (newsreelref17_zone.j0 k y0 y1 y2) (newsreelref17_zone.j0 (k + 1) y0 y1 y2)) ∧ (∀ y0 y1 y2 y3 y4, LeO (newsreelref17_zone.l0 k y0 y1 y2 y3 y4) (newsreelref17_zone.l0 (k + 1) y0 y1 y2 y3 y4)) ∧ (∀ y0 y1, LeO (newsreelref17_zone.j2 k y0 y1) (newsreelref17_zone.j2 (k + 1) y0 y1))
 | 0 => ⟨fun _ _ _ r h => by simp [newsreelref17_zone.j0] at h, fun _ _ _ _ _ r h => by simp [newsreelref17_zone.l0] at h, fun _ _ r h => by simp [newsreelref17_zone.j2] at h⟩
 | k + 1 => by
  obtain ⟨ih0, ih1, ih2⟩ := newsreelref17_zone.mono_l k
  refine ⟨?_, ?_, ?_⟩
  ·intro y0 y1 y2
   unfold newsreelref17_zone.j0
   repeat' first
   | (with_reducible exact ih0 _ _ _)
   | (with_reducible exact ih1 _ _ _ _ _)
   | (with_reducible exact ih2 _ _)
   | (with_reducible exact newsreelref02_Lower.mono _ _)
   | (with_reducible exact newsreelref17_Number.mono _ _ _)
   | (with_reducible exact LeO.refl _)
   | (with_reducible exact LeO.none _)
   | (with_reducible refine LeO.ite ?_ ?_)
   | (with_reducible refine LeO.bind ?_ (fun _ => ?_))
   | exact ih0 _ _ _
   | exact ih1 _ _ _ _ _
   | exact ih2 _ _
   | exact newsreelref02_Lower.mono _ _
   | exact newsreelref17_Number.mono _ _ _
   | exact LeO.none _
   | refine LeO.ite ?_ ?_
   | refine LeO.bind ?_ (fun _ => ?_)
  ·intro y0 y1 y2 y3 y4
   unfold newsreelref17_zone.l0
   repeat' first
   | (with_reducible exact ih0 _ _ _)
   | (with_reducible exact ih1 _ _ _ _ _)
   | (with_reducible exact ih2 _ _)
   | (with_reducible exact newsreelref02_Lower.mono _ _)
   | (with_reducible exact newsreelref17_Number.mono _ _ _)
   | (with_reducible exact LeO.refl _)
   | (with_reducible exact LeO.none _)
   | (with_reducible refine LeO.ite ?_ ?_)
   | (with_reducible refine LeO.bind ?_ (fun _ => ?_))
   | exact ih0 _ _ _
   | exact ih1 _ _ _ _ _
   | exact ih2 _ _
   | exact newsreelref02_Lower.mono _ _
   | exact newsreelref17_Number.mono _ _ _
   | exact LeO.none _
   | refine LeO.ite ?_ ?_
   | refine LeO.bind ?_ (fun _ => ?_)
  ·intro y0 y1
   unfold newsreelref17_zone.j2
   repeat' first
   | (with_reducible exact ih0 _ _ _)
   | (with_reducible exact ih1 _ _ _ _ _)
   | (with_reducible exact ih2 _ _)
   | (with_reducible exact newsreelref02_Lower.mono _ _)
   | (with_reducible exact newsreelref17_Number.mono _ _ _)
   | (with_reducible exact LeO.refl _)
   | (with_reducible exact LeO.none _)
   | (with_reducible refine LeO.ite ?_ ?_)
   | (with_reducible refine LeO.bind ?_ (fun _ => ?_))
   | exact ih0 _ _ _
   | exact ih1 _ _ _ _ _
   | exact ih2 _ _
   | exact newsreelref02_Lower.mono _ _
   | exact newsreelref17_Number.mono _ _ _
   | exact LeO.none _
   | refine LeO.ite ?_ ?_
   | refine LeO.bind ?_ (fun _ => ?_)
theorem newsreelref17_zone.mono : ∀ a0 k, LeO (newsreelref17_zone.f k a0) (newsreelref17_zone.f (k + 1) a0) := by
 intro a0 k
 obtain ⟨ih0, ih1, ih2⟩ := newsreelref17_zone.mono_l k
 unfold newsreelref17_zone.f
 repeat' first
   | (with_reducible exact ih0 _ _ _)
   | (with_reducible exact ih1 _ _ _ _ _)
   | (with_reducible exact ih2 _ _)
   | (with_reducible exact newsreelref02_Lower.mono _ _)
   | (with_reducible exact newsreelref17_Number.mono _ _ _)
   | (with_reducible exact LeO.refl _)
   | (with_reducible exact LeO.none _)
   | (with_reducible refine LeO.ite ?_ ?_)
   | (with_reducible refine LeO.bind ?_ (fun _ => ?_))
   | exact ih0 _ _ _
   | exact ih1 _ _ _ _ _
   | exact ih2 _ _
   | exact newsreelref02_Lower.mono _ _
   | exact newsreelref17_Number.mono _ _ _
   | exact LeO.none _
   | refine LeO.ite ?_ ?_
   | refine LeO.bind ?_ (fun _ => ?_)
set_option maxHeartbeats 8000000 in
set_option maxRecDepth 100000 in
theorem newsreelref17_zone.calls (k : Nat) (a0 : ByteArray) (r1 : Int) (r2 : Bool) (r3 : Bool) (w : World) (h : newsreelref17_zone.f k a0 = some (r1, r2, r3)) :
  Calls Tryd.prog 40 #[.string a0] w fun e w' => e = .returned (.tuple #[.int .i64 r1, .bool r2, .bool r3]) ∧ Below w.heap.size w w' := by
 have HB := mkA (Below.refl w.heap.size w)
 have H : ((newsreelref02_Lower.f k a0).bind fun t266 => (if t266.toList = ([103, 109, 116] : List UInt8) then (newsreelref17_zone.j0 k a0 t266 true) else (if t266.toList = ([117, 116] : List UInt8) then (newsreelref17_zone.j0 k a0 t266 true) else (if t266.toList = ([117, 116, 99] : List UInt8) then (newsreelref17_zone.j0 k a0 t266 true) else (newsreelref17_zone.j0 k a0 t266 (t266.toList == ([122] : List UInt8))))))) = some (r1, r2, r3) := h
 clear h
 replace H := Option.bind_eq_some_iff.mp H
 obtain ⟨t266, A20, H⟩ := H
 replace H : (if t266.toList = ([103, 109, 116] : List UInt8) then (newsreelref17_zone.j0 k a0 t266 true) else (if t266.toList = ([117, 116] : List UInt8) then (newsreelref17_zone.j0 k a0 t266 true) else (if t266.toList = ([117, 116, 99] : List UInt8) then (newsreelref17_zone.j0 k a0 t266 true) else (newsreelref17_zone.j0 k a0 t266 (t266.toList == ([122] : List UInt8)))))) = some (r1, r2, r3) := H
 have A2 := mkA A20
 clear A20
 have HC3 := mkA H
 clear H
 go_enter Tryd.func40, Tryd.ntmps40
 go_upto_region 2 with (first | (go_at_call 51; (with_reducible refine (newsreelref02_Lower.calls k a0 t266 _ A2.out).mono ?_); rintro e w4 ⟨rfl, hb⟩; have n0_ := mkA (below_step (below_y HB.out) hb); clear HB; have HB := n0_; clear n0_; (try clear hb); (try clear hb2); (try clear hk); (try clear hi)))
 repeat (go_quiet (first | (go_at_call 51; (with_reducible refine (newsreelref02_Lower.calls k a0 t266 _ A2.out).mono ?_); rintro e w4 ⟨rfl, hb⟩; have n0_ := mkA (below_step (below_y HB.out) hb); clear HB; have HB := n0_; clear n0_; (try clear hb); (try clear hb2); (try clear hk); (try clear hi))); go_upto_region 2 with (first | (go_at_call 51; (with_reducible refine (newsreelref02_Lower.calls k a0 t266 _ A2.out).mono ?_); rintro e w4 ⟨rfl, hb⟩; have n0_ := mkA (below_step (below_y HB.out) hb); clear HB; have HB := n0_; clear n0_; (try clear hb); (try clear hb2); (try clear hk); (try clear hi))))
 (try simp only [Act.put, sA, s0, sS])
 go_cut [26] (fun v26 wc => ∃ (kq : Nat) (x26_2 : Bool), v26 = .bool x26_2 ∧ Aside0 (newsreelref17_zone.j0 kq a0 t266 x26_2 = some (r1, r2, r3)) ∧ Aside0 (kq ≤ k) ∧ Aside0 (Below w.heap.size w wc))
 case first =>
  have H := HC3.out
  clear HC3
  by_cases c5 : t266.toList = ([103, 109, 116] : List UInt8)
  ·rw [if_pos c5] at H
   have c5b0 : (t266.toList == ([103, 109, 116] : List UInt8)) = true := beq_iff_eq.mpr c5
   have c5b1 : (t266.toList != ([103, 109, 116] : List UInt8)) = false := bne_eq_false_iff_eq.mpr c5
   clear c5
   (first | rw [c5b0] | (simp only [i64_w, i32_w]; rw [c5b0]) | skip)
   as_aux_lemma =>
    have H' := mkA H
    clear H
    go_wp2
    repeat (go_quiet (fail); try go_wp2)
    go_meet
    case rel => exact ⟨_, (true), (by first | rfl | (simp; done) | (simp [*]; done)), H', ⟨by first | omega | exact Nat.le_refl _⟩, ⟨below_y HB.out⟩⟩
  ·rw [if_neg c5] at H
   have c5b0 : (t266.toList == ([103, 109, 116] : List UInt8)) = false := beq_eq_false_iff_ne.mpr c5
   have c5b1 : (t266.toList != ([103, 109, 116] : List UInt8)) = true := bne_iff_ne.mpr c5
   (first | rw [c5b0] | (simp only [i64_w, i32_w]; rw [c5b0]) | skip)
   by_cases c6 : t266.toList = ([117, 116] : List UInt8)
   ·rw [if_pos c6] at H
    have c6b0 : (t266.toList == ([117, 116] : List UInt8)) = true := beq_iff_eq.mpr c6
    have c6b1 : (t266.toList != ([117, 116] : List UInt8)) = false := bne_eq_false_iff_eq.mpr c6
    clear c6
    as_aux_lemma =>
     have H' := mkA H
     clear H
     go_wp2
     repeat (go_quiet (fail); try go_wp2)
     go_meet
     case rel => exact ⟨_, (true), (by first | rfl | (simp; done) | (simp [*]; done)), H', ⟨by first | omega | exact Nat.le_refl _⟩, ⟨below_y HB.out⟩⟩
   ·rw [if_neg c6] at H
    have c6b0 : (t266.toList == ([117, 116] : List UInt8)) = false := beq_eq_false_iff_ne.mpr c6
    have c6b1 : (t266.toList != ([117, 116] : List UInt8)) = true := bne_iff_ne.mpr c6
    by_cases c7 : t266.toList = ([117, 116, 99] : List UInt8)
    ·rw [if_pos c7] at H
     have c7b0 : (t266.toList == ([117, 116, 99] : List UInt8)) = true := beq_iff_eq.mpr c7
     have c7b1 : (t266.toList != ([117, 116, 99] : List UInt8)) = false := bne_eq_false_iff_eq.mpr c7
     clear c7
     as_aux_lemma =>
      have H' := mkA H
      clear H
      go_wp2
      repeat (go_quiet (fail); try go_wp2)
      go_meet
      case rel => exact ⟨_, (true), (by first | rfl | (simp; done) | (simp [*]; done)), H', ⟨by first | omega | exact Nat.le_refl _⟩, ⟨below_y HB.out⟩⟩
    ·rw [if_neg c7] at H
     have c7b0 : (t266.toList == ([117, 116, 99] : List UInt8)) = false := beq_eq_false_iff_ne.mpr c7
     have c7b1 : (t266.toList != ([117, 116, 99] : List UInt8)) = true := bne_iff_ne.mpr c7
     as_aux_lemma =>
      have H' := mkA H
      clear H
      go_wp2
      repeat (go_quiet (fail); try go_wp2)
      go_meet
      case rel => exact ⟨_, ((t266.toList == ([122] : List UInt8))), (by first | rfl | (simp; done) | (simp [*]; done)), H', ⟨by first | omega | exact Nat.le_refl _⟩, ⟨below_y HB.out⟩⟩
 case rest =>
  clear HC3
  try clear p2
  try clear c4
  try clear c5
  try clear c5b0
  try clear c5b1
  try clear c6
  try clear c6b0
  try clear c6b1
  try clear c7
  try clear c7b0
  try clear c7b1
  obtain ⟨kq, x26_2, rfl, HA, HJ2, HB⟩ := hcut
  cases kq with
  | zero => exact absurd HA.out (by simp [newsreelref17_zone.j0])
  | succ kj2 =>
   have H := HA.out
   clear HA
   simp only [newsreelref17_zone.j0] at H
   by_cases c8 : x26_2 = true
   ·subst c8
    have H1 : (some (0, true, true)) = some (r1, r2, r3) := by rw [if_pos rfl] at H; exact H
    clear H
    have H := H1
    clear H1
    as_aux_lemma =>
     simp only [Option.some.injEq, Prod.mk.injEq] at H
     obtain ⟨rfl, rfl, rfl⟩ := H
     go_wp2
     repeat (go_quiet (fail); try go_wp2)
     go_ret3
     exact ⟨by first | rfl | (simp [errW_none, errW_some] <;> rfl) | (simp [*, errW_none, errW_some] <;> rfl), below_y HB.out⟩
   ·replace c8 := Bool.eq_false_iff.mpr c8
    subst c8
    have H1 : (newsreelref17_zone.l0 kj2 a0 t266 (([(⟨#[101, 100, 116]⟩ : ByteArray), (⟨#[101, 115, 116]⟩ : ByteArray), (⟨#[99, 100, 116]⟩ : ByteArray), (⟨#[99, 115, 116]⟩ : ByteArray), (⟨#[109, 100, 116]⟩ : ByteArray), (⟨#[109, 115, 116]⟩ : ByteArray), (⟨#[112, 100, 116]⟩ : ByteArray), (⟨#[112, 115, 116]⟩ : ByteArray)] : List ByteArray)) (([4, 5, 5, 6, 6, 7, 7, 8] : List Int)) 0) = some (r1, r2, r3) := by rw [if_neg (show ¬ (false = true) by decide)] at H; exact H
    clear H
    have H := H1
    clear H1
    obtain ⟨y267, hy267⟩ : ∃ y_ : List ByteArray, y_ = (([(⟨#[101, 100, 116]⟩ : ByteArray), (⟨#[101, 115, 116]⟩ : ByteArray), (⟨#[99, 100, 116]⟩ : ByteArray), (⟨#[99, 115, 116]⟩ : ByteArray), (⟨#[109, 100, 116]⟩ : ByteArray), (⟨#[109, 115, 116]⟩ : ByteArray), (⟨#[112, 100, 116]⟩ : ByteArray), (⟨#[112, 115, 116]⟩ : ByteArray)] : List ByteArray)) := ⟨_, rfl⟩
    replace H : (newsreelref17_zone.l0 kj2 a0 t266 y267 (([4, 5, 5, 6, 6, 7, 7, 8] : List Int)) 0) = some (r1, r2, r3) := by first | (rw [hy267]; with_reducible exact H) | (have H2_ := (Option.bind_some _ _).symm.trans H; rw [hy267]; with_reducible exact H2_) | (have H2_ := (Option.bind_some _ _).symm.trans H; with_reducible exact H2_) | with_reducible exact H | (rw [hy267]; exact H) | exact H
    have Ny267 := mkA hy267
    clear hy267
    obtain ⟨y270, hy270⟩ : ∃ y_ : List Int, y_ = (([4, 5, 5, 6, 6, 7, 7, 8] : List Int)) := ⟨_, rfl⟩
    replace H : (newsreelref17_zone.l0 kj2 a0 t266 y267 y270 0) = some (r1, r2, r3) := by first | (rw [hy270]; with_reducible exact H) | (have H2_ := (Option.bind_some _ _).symm.trans H; rw [hy270]; with_reducible exact H2_) | (have H2_ := (Option.bind_some _ _).symm.trans H; with_reducible exact H2_) | with_reducible exact H | (rw [hy270]; exact H) | exact H
    have Ny270 := mkA hy270
    clear hy270
    have H' := mkA H
    clear H
    go_wp2_with (first | ((with_reducible refine gate_dst (N := 27) rfl ?_); refine Kd.R_lit Kd.string _ 9 ?hg (N := 27) ?hd (xs := ([(⟨#[101, 100, 116]⟩ : ByteArray), (⟨#[101, 115, 116]⟩ : ByteArray), (⟨#[99, 100, 116]⟩ : ByteArray), (⟨#[99, 115, 116]⟩ : ByteArray), (⟨#[109, 100, 116]⟩ : ByteArray), (⟨#[109, 115, 116]⟩ : ByteArray), (⟨#[112, 100, 116]⟩ : ByteArray), (⟨#[112, 115, 116]⟩ : ByteArray)] : List ByteArray)) (inner := [.string (⟨#[101, 100, 116]⟩ : ByteArray), .string (⟨#[101, 115, 116]⟩ : ByteArray), .string (⟨#[99, 100, 116]⟩ : ByteArray), .string (⟨#[99, 115, 116]⟩ : ByteArray), .string (⟨#[109, 100, 116]⟩ : ByteArray), .string (⟨#[109, 115, 116]⟩ : ByteArray), .string (⟨#[112, 100, 116]⟩ : ByteArray), .string (⟨#[112, 115, 116]⟩ : ByteArray)]) (ok := fun _ => True) (okp := fun _ => True) ?hr ?hp (fun _ hk => hk) trivial (Below.refl _ _) (Nat.le_refl _) (by simp) ?_; (case hd => rfl); (case hg => rfl); (case hr => first | (go_simp; done) | (go_simp; rfl)); (case hp => exact (Reps.one (show Kd.M Kd.string _ _ _ (⟨#[101, 100, 116]⟩ : ByteArray) [.string (⟨#[101, 100, 116]⟩ : ByteArray)] from rfl) (Reps.one (show Kd.M Kd.string _ _ _ (⟨#[101, 115, 116]⟩ : ByteArray) [.string (⟨#[101, 115, 116]⟩ : ByteArray)] from rfl) (Reps.one (show Kd.M Kd.string _ _ _ (⟨#[99, 100, 116]⟩ : ByteArray) [.string (⟨#[99, 100, 116]⟩ : ByteArray)] from rfl) (Reps.one (show Kd.M Kd.string _ _ _ (⟨#[99, 115, 116]⟩ : ByteArray) [.string (⟨#[99, 115, 116]⟩ : ByteArray)] from rfl) (Reps.one (show Kd.M Kd.string _ _ _ (⟨#[109, 100, 116]⟩ : ByteArray) [.string (⟨#[109, 100, 116]⟩ : ByteArray)] from rfl) (Reps.one (show Kd.M Kd.string _ _ _ (⟨#[109, 115, 116]⟩ : ByteArray) [.string (⟨#[109, 115, 116]⟩ : ByteArray)] from rfl) (Reps.one (show Kd.M Kd.string _ _ _ (⟨#[112, 100, 116]⟩ : ByteArray) [.string (⟨#[112, 100, 116]⟩ : ByteArray)] from rfl) (Reps.one (show Kd.M Kd.string _ _ _ (⟨#[112, 115, 116]⟩ : ByteArray) [.string (⟨#[112, 115, 116]⟩ : ByteArray)] from rfl) (Reps.none _ _)))))))))); intro v268 w9 ho10 hb hg_ hnew_; clear hg_ hnew_; (first | rw [← Ny267.out] at ho10 | (simp only [Int.reduceToNat] at ho10; rw [← Ny267.out] at ho10)); have n0_ := mkA (Kd.R_lower ho10 (below_size (below_y HB.out))); have n1_ := mkA (below_step (below_y HB.out) hb); clear HB; have HO269 := n0_; have HB := n1_; clear n0_ n1_; clear hb ho10) | ((with_reducible refine gate_dst (N := 28) rfl ?_); refine Kd.R_lit (Kd.int .i64) _ 3 ?hg (N := 28) ?hd (xs := ([4, 5, 5, 6, 6, 7, 7, 8] : List Int)) (inner := [.int .i64 4, .int .i64 5, .int .i64 5, .int .i64 6, .int .i64 6, .int .i64 7, .int .i64 7, .int .i64 8]) (ok := fun _ => True) (okp := fun _ => True) ?hr ?hp (fun _ hk => hk) trivial (Below.refl _ _) (Nat.le_refl _) (by simp) ?_; (case hd => rfl); (case hg => rfl); (case hr => first | (go_simp; done) | (go_simp; rfl)); (case hp => exact (Reps.one (show Kd.M (Kd.int .i64) _ _ _ 4 [.int .i64 4] from rfl) (Reps.one (show Kd.M (Kd.int .i64) _ _ _ 5 [.int .i64 5] from rfl) (Reps.one (show Kd.M (Kd.int .i64) _ _ _ 5 [.int .i64 5] from rfl) (Reps.one (show Kd.M (Kd.int .i64) _ _ _ 6 [.int .i64 6] from rfl) (Reps.one (show Kd.M (Kd.int .i64) _ _ _ 6 [.int .i64 6] from rfl) (Reps.one (show Kd.M (Kd.int .i64) _ _ _ 7 [.int .i64 7] from rfl) (Reps.one (show Kd.M (Kd.int .i64) _ _ _ 7 [.int .i64 7] from rfl) (Reps.one (show Kd.M (Kd.int .i64) _ _ _ 8 [.int .i64 8] from rfl) (Reps.none _ _)))))))))); intro v271 w11 ho12 hb hg_ hnew_; clear hg_ hnew_; (first | rw [← Ny270.out] at ho12 | (simp only [Int.reduceToNat] at ho12; rw [← Ny270.out] at ho12)); have n0_ := mkA (Kd.R_below (Kd.R_y HO269.out) hb); have n1_ := mkA (Kd.R_lower ho12 (below_size (below_y HB.out))); have n2_ := mkA (below_step (below_y HB.out) hb); clear HO269; clear HB; have HO269 := n0_; have HO272 := n1_; have HB := n2_; clear n0_ n1_ n2_; clear hb ho12))
    repeat (go_quiet (first | ((with_reducible refine gate_dst (N := 27) rfl ?_); refine Kd.R_lit Kd.string _ 9 ?hg (N := 27) ?hd (xs := ([(⟨#[101, 100, 116]⟩ : ByteArray), (⟨#[101, 115, 116]⟩ : ByteArray), (⟨#[99, 100, 116]⟩ : ByteArray), (⟨#[99, 115, 116]⟩ : ByteArray), (⟨#[109, 100, 116]⟩ : ByteArray), (⟨#[109, 115, 116]⟩ : ByteArray), (⟨#[112, 100, 116]⟩ : ByteArray), (⟨#[112, 115, 116]⟩ : ByteArray)] : List ByteArray)) (inner := [.string (⟨#[101, 100, 116]⟩ : ByteArray), .string (⟨#[101, 115, 116]⟩ : ByteArray), .string (⟨#[99, 100, 116]⟩ : ByteArray), .string (⟨#[99, 115, 116]⟩ : ByteArray), .string (⟨#[109, 100, 116]⟩ : ByteArray), .string (⟨#[109, 115, 116]⟩ : ByteArray), .string (⟨#[112, 100, 116]⟩ : ByteArray), .string (⟨#[112, 115, 116]⟩ : ByteArray)]) (ok := fun _ => True) (okp := fun _ => True) ?hr ?hp (fun _ hk => hk) trivial (Below.refl _ _) (Nat.le_refl _) (by simp) ?_; (case hd => rfl); (case hg => rfl); (case hr => first | (go_simp; done) | (go_simp; rfl)); (case hp => exact (Reps.one (show Kd.M Kd.string _ _ _ (⟨#[101, 100, 116]⟩ : ByteArray) [.string (⟨#[101, 100, 116]⟩ : ByteArray)] from rfl) (Reps.one (show Kd.M Kd.string _ _ _ (⟨#[101, 115, 116]⟩ : ByteArray) [.string (⟨#[101, 115, 116]⟩ : ByteArray)] from rfl) (Reps.one (show Kd.M Kd.string _ _ _ (⟨#[99, 100, 116]⟩ : ByteArray) [.string (⟨#[99, 100, 116]⟩ : ByteArray)] from rfl) (Reps.one (show Kd.M Kd.string _ _ _ (⟨#[99, 115, 116]⟩ : ByteArray) [.string (⟨#[99, 115, 116]⟩ : ByteArray)] from rfl) (Reps.one (show Kd.M Kd.string _ _ _ (⟨#[109, 100, 116]⟩ : ByteArray) [.string (⟨#[109, 100, 116]⟩ : ByteArray)] from rfl) (Reps.one (show Kd.M Kd.string _ _ _ (⟨#[109, 115, 116]⟩ : ByteArray) [.string (⟨#[109, 115, 116]⟩ : ByteArray)] from rfl) (Reps.one (show Kd.M Kd.string _ _ _ (⟨#[112, 100, 116]⟩ : ByteArray) [.string (⟨#[112, 100, 116]⟩ : ByteArray)] from rfl) (Reps.one (show Kd.M Kd.string _ _ _ (⟨#[112, 115, 116]⟩ : ByteArray) [.string (⟨#[112, 115, 116]⟩ : ByteArray)] from rfl) (Reps.none _ _)))))))))); intro v268 w9 ho10 hb hg_ hnew_; clear hg_ hnew_; (first | rw [← Ny267.out] at ho10 | (simp only [Int.reduceToNat] at ho10; rw [← Ny267.out] at ho10)); have n0_ := mkA (Kd.R_lower ho10 (below_size (below_y HB.out))); have n1_ := mkA (below_step (below_y HB.out) hb); clear HB; have HO269 := n0_; have HB := n1_; clear n0_ n1_; clear hb ho10) | ((with_reducible refine gate_dst (N := 28) rfl ?_); refine Kd.R_lit (Kd.int .i64) _ 3 ?hg (N := 28) ?hd (xs := ([4, 5, 5, 6, 6, 7, 7, 8] : List Int)) (inner := [.int .i64 4, .int .i64 5, .int .i64 5, .int .i64 6, .int .i64 6, .int .i64 7, .int .i64 7, .int .i64 8]) (ok := fun _ => True) (okp := fun _ => True) ?hr ?hp (fun _ hk => hk) trivial (Below.refl _ _) (Nat.le_refl _) (by simp) ?_; (case hd => rfl); (case hg => rfl); (case hr => first | (go_simp; done) | (go_simp; rfl)); (case hp => exact (Reps.one (show Kd.M (Kd.int .i64) _ _ _ 4 [.int .i64 4] from rfl) (Reps.one (show Kd.M (Kd.int .i64) _ _ _ 5 [.int .i64 5] from rfl) (Reps.one (show Kd.M (Kd.int .i64) _ _ _ 5 [.int .i64 5] from rfl) (Reps.one (show Kd.M (Kd.int .i64) _ _ _ 6 [.int .i64 6] from rfl) (Reps.one (show Kd.M (Kd.int .i64) _ _ _ 6 [.int .i64 6] from rfl) (Reps.one (show Kd.M (Kd.int .i64) _ _ _ 7 [.int .i64 7] from rfl) (Reps.one (show Kd.M (Kd.int .i64) _ _ _ 7 [.int .i64 7] from rfl) (Reps.one (show Kd.M (Kd.int .i64) _ _ _ 8 [.int .i64 8] from rfl) (Reps.none _ _)))))))))); intro v271 w11 ho12 hb hg_ hnew_; clear hg_ hnew_; (first | rw [← Ny270.out] at ho12 | (simp only [Int.reduceToNat] at ho12; rw [← Ny270.out] at ho12)); have n0_ := mkA (Kd.R_below (Kd.R_y HO269.out) hb); have n1_ := mkA (Kd.R_lower ho12 (below_size (below_y HB.out))); have n2_ := mkA (below_step (below_y HB.out) hb); clear HO269; clear HB; have HO269 := n0_; have HO272 := n1_; have HB := n2_; clear n0_ n1_ n2_; clear hb ho12)); try go_wp2_with (first | ((with_reducible refine gate_dst (N := 27) rfl ?_); refine Kd.R_lit Kd.string _ 9 ?hg (N := 27) ?hd (xs := ([(⟨#[101, 100, 116]⟩ : ByteArray), (⟨#[101, 115, 116]⟩ : ByteArray), (⟨#[99, 100, 116]⟩ : ByteArray), (⟨#[99, 115, 116]⟩ : ByteArray), (⟨#[109, 100, 116]⟩ : ByteArray), (⟨#[109, 115, 116]⟩ : ByteArray), (⟨#[112, 100, 116]⟩ : ByteArray), (⟨#[112, 115, 116]⟩ : ByteArray)] : List ByteArray)) (inner := [.string (⟨#[101, 100, 116]⟩ : ByteArray), .string (⟨#[101, 115, 116]⟩ : ByteArray), .string (⟨#[99, 100, 116]⟩ : ByteArray), .string (⟨#[99, 115, 116]⟩ : ByteArray), .string (⟨#[109, 100, 116]⟩ : ByteArray), .string (⟨#[109, 115, 116]⟩ : ByteArray), .string (⟨#[112, 100, 116]⟩ : ByteArray), .string (⟨#[112, 115, 116]⟩ : ByteArray)]) (ok := fun _ => True) (okp := fun _ => True) ?hr ?hp (fun _ hk => hk) trivial (Below.refl _ _) (Nat.le_refl _) (by simp) ?_; (case hd => rfl); (case hg => rfl); (case hr => first | (go_simp; done) | (go_simp; rfl)); (case hp => exact (Reps.one (show Kd.M Kd.string _ _ _ (⟨#[101, 100, 116]⟩ : ByteArray) [.string (⟨#[101, 100, 116]⟩ : ByteArray)] from rfl) (Reps.one (show Kd.M Kd.string _ _ _ (⟨#[101, 115, 116]⟩ : ByteArray) [.string (⟨#[101, 115, 116]⟩ : ByteArray)] from rfl) (Reps.one (show Kd.M Kd.string _ _ _ (⟨#[99, 100, 116]⟩ : ByteArray) [.string (⟨#[99, 100, 116]⟩ : ByteArray)] from rfl) (Reps.one (show Kd.M Kd.string _ _ _ (⟨#[99, 115, 116]⟩ : ByteArray) [.string (⟨#[99, 115, 116]⟩ : ByteArray)] from rfl) (Reps.one (show Kd.M Kd.string _ _ _ (⟨#[109, 100, 116]⟩ : ByteArray) [.string (⟨#[109, 100, 116]⟩ : ByteArray)] from rfl) (Reps.one (show Kd.M Kd.string _ _ _ (⟨#[109, 115, 116]⟩ : ByteArray) [.string (⟨#[109, 115, 116]⟩ : ByteArray)] from rfl) (Reps.one (show Kd.M Kd.string _ _ _ (⟨#[112, 100, 116]⟩ : ByteArray) [.string (⟨#[112, 100, 116]⟩ : ByteArray)] from rfl) (Reps.one (show Kd.M Kd.string _ _ _ (⟨#[112, 115, 116]⟩ : ByteArray) [.string (⟨#[112, 115, 116]⟩ : ByteArray)] from rfl) (Reps.none _ _)))))))))); intro v268 w9 ho10 hb hg_ hnew_; clear hg_ hnew_; (first | rw [← Ny267.out] at ho10 | (simp only [Int.reduceToNat] at ho10; rw [← Ny267.out] at ho10)); have n0_ := mkA (Kd.R_lower ho10 (below_size (below_y HB.out))); have n1_ := mkA (below_step (below_y HB.out) hb); clear HB; have HO269 := n0_; have HB := n1_; clear n0_ n1_; clear hb ho10) | ((with_reducible refine gate_dst (N := 28) rfl ?_); refine Kd.R_lit (Kd.int .i64) _ 3 ?hg (N := 28) ?hd (xs := ([4, 5, 5, 6, 6, 7, 7, 8] : List Int)) (inner := [.int .i64 4, .int .i64 5, .int .i64 5, .int .i64 6, .int .i64 6, .int .i64 7, .int .i64 7, .int .i64 8]) (ok := fun _ => True) (okp := fun _ => True) ?hr ?hp (fun _ hk => hk) trivial (Below.refl _ _) (Nat.le_refl _) (by simp) ?_; (case hd => rfl); (case hg => rfl); (case hr => first | (go_simp; done) | (go_simp; rfl)); (case hp => exact (Reps.one (show Kd.M (Kd.int .i64) _ _ _ 4 [.int .i64 4] from rfl) (Reps.one (show Kd.M (Kd.int .i64) _ _ _ 5 [.int .i64 5] from rfl) (Reps.one (show Kd.M (Kd.int .i64) _ _ _ 5 [.int .i64 5] from rfl) (Reps.one (show Kd.M (Kd.int .i64) _ _ _ 6 [.int .i64 6] from rfl) (Reps.one (show Kd.M (Kd.int .i64) _ _ _ 6 [.int .i64 6] from rfl) (Reps.one (show Kd.M (Kd.int .i64) _ _ _ 7 [.int .i64 7] from rfl) (Reps.one (show Kd.M (Kd.int .i64) _ _ _ 7 [.int .i64 7] from rfl) (Reps.one (show Kd.M (Kd.int .i64) _ _ _ 8 [.int .i64 8] from rfl) (Reps.none _ _)))))))))); intro v271 w11 ho12 hb hg_ hnew_; clear hg_ hnew_; (first | rw [← Ny270.out] at ho12 | (simp only [Int.reduceToNat] at ho12; rw [← Ny270.out] at ho12)); have n0_ := mkA (Kd.R_below (Kd.R_y HO269.out) hb); have n1_ := mkA (Kd.R_lower ho12 (below_size (below_y HB.out))); have n2_ := mkA (below_step (below_y HB.out) hb); clear HO269; clear HB; have HO269 := n0_; have HO272 := n1_; have HB := n2_; clear n0_ n1_ n2_; clear hb ho12)))
    go_loopg [8] kj2 (fun kq v8 w' => ∃ (x8_2 : Int), v8 = .int .i64 x8_2 ∧ Aside0 (newsreelref17_zone.l0 kq a0 t266 y267 y270 x8_2 = some (r1, r2, r3)) ∧ Aside0 (kq ≤ kj2) ∧ Aside0 (Kd.R Kd.string 9 w' w.heap.size (fun _ => True) v268 y267) ∧ Aside0 (Kd.R (Kd.int .i64) 3 w' w.heap.size (fun _ => True) v271 y270) ∧ Aside0 (Below w.heap.size w w'))
    case atStart => exact ⟨(0), (by first | rfl | (simp; done) | (simp [*]; done)), H', ⟨Nat.le_refl _⟩, ⟨by (with_reducible repeat (first | apply Kd.R_alloc | apply Kd.R_drewN | apply Kd.R_drew)); exact HO269.out⟩, ⟨by (with_reducible repeat (first | apply Kd.R_alloc | apply Kd.R_drewN | apply Kd.R_drew)); exact HO272.out⟩, ⟨below_y HB.out⟩⟩
    case round =>
     clear H'
     try clear p2
     try clear c4
     try clear c5
     try clear c5b0
     try clear c5b1
     try clear c6
     try clear c6b0
     try clear c6b1
     try clear c7
     try clear c7b0
     try clear c7b1
     try clear c8
     try clear p2
     obtain ⟨x8_2, rfl, HA, HK2, HO_6, HO_7, HB⟩ := hrel
     cases gk with
     | zero => exact absurd HA.out (by simp [newsreelref17_zone.l0])
     | succ k2 =>
      have H := HA.out
      clear HA
      simp only [newsreelref17_zone.l0] at H
      by_cases c13 : x8_2 < (y267.length : Int)
      ·rw [if_pos c13] at H
       have c13b0 : decide (x8_2 < (y267.length : Int)) = true := decide_eq_true c13
       clear c13
       by_cases c14 : 0 ≤ x8_2
       ·rw [if_pos c14] at H
        have c14b0 : decide (0 ≤ x8_2) = true := decide_eq_true c14
        clear c14
        by_cases c15 : (rdOf ByteArray.empty y267 x8_2).toList = t266.toList
        ·rw [if_pos c15] at H
         have c15b0 : ((rdOf ByteArray.empty y267 x8_2).toList == t266.toList) = true := beq_iff_eq.mpr c15
         have c15b1 : ((rdOf ByteArray.empty y267 x8_2).toList != t266.toList) = false := bne_eq_false_iff_eq.mpr c15
         clear c15
         by_cases c16 : x8_2 < (y270.length : Int)
         ·rw [if_pos c16] at H
          have c16b0 : decide (x8_2 < (y270.length : Int)) = true := decide_eq_true c16
          clear c16
          as_aux_lemma =>
           simp only [Option.some.injEq, Prod.mk.injEq] at H
           obtain ⟨rfl, rfl, rfl⟩ := H
           obtain ⟨Ao17, co17, eo17⟩ := Kd.R_slice HO_6.out
           subst eo17
           have p273 : 0 ≤ (x8_2 : Int) := odt
           have q273 : x8_2 < (y267.length : Int) := odt
           obtain ⟨ad273, e273, hx273_0⟩ := Kd.at_string (Kd.R_reads' HO_6.out).2.2 x8_2 p273 q273
           cases e273
           replace p273 := eq_true p273
           replace q273 := eq_true q273
           obtain ⟨Ao18, co18, eo18⟩ := Kd.R_slice HO_7.out
           subst eo18
           have p274 : 0 ≤ (x8_2 : Int) := odt
           have q274 : x8_2 < (y270.length : Int) := odt
           obtain ⟨ad274, e274, hx274_0⟩ := Kd.at_int (Kd.R_reads' HO_7.out).2.2 x8_2 p274 q274
           cases e274
           replace p274 := eq_true p274
           replace q274 := eq_true q274
           go_wp2
           repeat (go_quiet (fail); try go_wp2)
           go_ret3
           exact ⟨by first | rfl | (simp [errW_none, errW_some] <;> rfl) | (simp [*, errW_none, errW_some] <;> rfl), below_y HB.out⟩
         ·rw [if_neg c16] at H
          exact absurd H (by simp)
        ·rw [if_neg c15] at H
         have c15b0 : ((rdOf ByteArray.empty y267 x8_2).toList == t266.toList) = false := beq_eq_false_iff_ne.mpr c15
         have c15b1 : ((rdOf ByteArray.empty y267 x8_2).toList != t266.toList) = true := bne_iff_ne.mpr c15
         as_aux_lemma =>
          have H' := mkA H
          clear H
          obtain ⟨Ao19, co19, eo19⟩ := Kd.R_slice HO_6.out
          subst eo19
          have p273 : 0 ≤ (x8_2 : Int) := odt
          have q273 : x8_2 < (y267.length : Int) := odt
          obtain ⟨ad273, e273, hx273_0⟩ := Kd.at_string (Kd.R_reads' HO_6.out).2.2 x8_2 p273 q273
          cases e273
          replace p273 := eq_true p273
          replace q273 := eq_true q273
          go_wp2
          repeat (go_quiet (fail); try go_wp2)
          go_roundg k2
          case measure => have := HJ2.out; have := HK2.out; omega
          case rel => exact ⟨(wrap64 (x8_2 + 1)), (by first | rfl | (simp; done) | (simp [*]; done)), H', ⟨by have := HJ2.out; have := HK2.out; omega⟩, ⟨by (with_reducible repeat (first | apply Kd.R_alloc | apply Kd.R_drewN | apply Kd.R_drew)); exact HO_6.out⟩, ⟨by (with_reducible repeat (first | apply Kd.R_alloc | apply Kd.R_drewN | apply Kd.R_drew)); exact HO_7.out⟩, ⟨below_y HB.out⟩⟩
       ·rw [if_neg c14] at H
        exact absurd H (by simp)
      ·rw [if_neg c13] at H
       have c13b0 : decide (x8_2 < (y267.length : Int)) = false := decide_eq_false c13
       clear c13
       have HC20 := mkA H
       clear H
       obtain ⟨Ao21, co21, eo21⟩ := Kd.R_slice HO_6.out
       subst eo21
       go_upto_region 11 with (fail)
       repeat (go_quiet (fail); go_upto_region 11 with (fail))
       go_cut [64] (fun v64 wc => ∃ (kq : Nat) (x64_19 : Bool), v64 = .bool x64_19 ∧ Aside0 (newsreelref17_zone.j2 kq a0 x64_19 = some (r1, r2, r3)) ∧ Aside0 (kq ≤ k2) ∧ Aside0 (Below w.heap.size w wc))
       case first =>
        have H := HC20.out
        clear HC20
        by_cases c22 : (a0.size : Int) = 5
        ·rw [if_pos c22] at H
         have c22b0 : ((a0.size : Int) == 5) = true := beq_iff_eq.mpr c22
         have c22b1 : ((a0.size : Int) != 5) = false := bne_eq_false_iff_eq.mpr c22
         clear c22
         (first | rw [c22b0] | (simp only [i64_w, i32_w]; rw [c22b0]) | skip)
         by_cases c23 : 0 < (a0.size : Int)
         ·rw [if_pos c23] at H
          have c23b0 : decide (0 < (a0.size : Int)) = true := decide_eq_true c23
          have c23b1 : decide (0 < a0.size) = true := decide_eq_true (by omega)
          clear c23
          by_cases c25 : (bt a0 0) = 43
          ·rw [if_pos c25] at H
           have c25b0 : ((bt a0 0) == 43) = true := beq_iff_eq.mpr c25
           have c25b1 : ((bt a0 0) != 43) = false := bne_eq_false_iff_eq.mpr c25
           clear c25
           by_cases c26 : 1 ≤ (a0.size : Int)
           ·rw [if_pos c26] at H
            have c26b0 := eq_true c26
            have c26b1 : decide (1 ≤ (a0.size : Int)) = true := decide_eq_true c26
            clear c26
            replace H := Option.bind_eq_some_iff.mp H
            obtain ⟨t275, A270, H⟩ := H
            replace H : (newsreelref17_zone.j2 k2 a0 (decide (t275 < 0))) = some (r1, r2, r3) := H
            have A27 := mkA A270
            clear A270
            as_aux_lemma =>
             have H' := mkA H
             clear H
             have p24 : 0 ≤ (0 : Int) := (by omega)
             have q24 : 0 < a0.size := (by have : (0 : Int) < (a0.size : Int) := odt; omega)
             have hx24 : ∀ h : 0 < a0.size, ((a0[0]'h).toNat : Int) = bt a0 0 := bt_at a0 0
             clear p24
             have qi24 : (0 < (a0.size : Int)) = True := eq_true (odt)
             replace q24 := eq_true q24
             go_wp2_with (first | (go_at_call 41; (with_reducible refine (newsreelref17_Number.calls k2 (a0.extract 1 a0.size) 4 t275 _ A27.out).mono ?_); rintro e w' ⟨rfl, ⟨nd, rfl⟩⟩; (try first | exact ⟨rfl, _, World.drewN_drewN _ _ _⟩ | exact ⟨rfl, _, Eq.trans (World.drewN_drewN _ _ _) (congrArg (World.drewN _) (Nat.add_assoc _ _ _))⟩)))
             repeat (go_quiet (first | (go_at_call 41; (with_reducible refine (newsreelref17_Number.calls k2 (a0.extract 1 a0.size) 4 t275 _ A27.out).mono ?_); rintro e w' ⟨rfl, ⟨nd, rfl⟩⟩; (try first | exact ⟨rfl, _, World.drewN_drewN _ _ _⟩ | exact ⟨rfl, _, Eq.trans (World.drewN_drewN _ _ _) (congrArg (World.drewN _) (Nat.add_assoc _ _ _))⟩))); try go_wp2_with (first | (go_at_call 41; (with_reducible refine (newsreelref17_Number.calls k2 (a0.extract 1 a0.size) 4 t275 _ A27.out).mono ?_); rintro e w' ⟨rfl, ⟨nd, rfl⟩⟩; (try first | exact ⟨rfl, _, World.drewN_drewN _ _ _⟩ | exact ⟨rfl, _, Eq.trans (World.drewN_drewN _ _ _) (congrArg (World.drewN _) (Nat.add_assoc _ _ _))⟩))))
             go_meet
             case rel => exact ⟨_, (decide (t275 < 0)), (by first | rfl | (simp; done) | (simp [*]; done)), H', ⟨by have := HJ2.out; have := HK2.out; first | omega | exact Nat.le_refl _⟩, ⟨below_y HB.out⟩⟩
           ·rw [if_neg c26] at H
            exact absurd H (by simp)
          ·rw [if_neg c25] at H
           have c25b0 : ((bt a0 0) == 43) = false := beq_eq_false_iff_ne.mpr c25
           have c25b1 : ((bt a0 0) != 43) = true := bne_iff_ne.mpr c25
           by_cases c29 : (bt a0 0) = 45
           ·rw [if_pos c29] at H
            have c29b0 : ((bt a0 0) == 45) = true := beq_iff_eq.mpr c29
            have c29b1 : ((bt a0 0) != 45) = false := bne_eq_false_iff_eq.mpr c29
            clear c29
            by_cases c30 : 1 ≤ (a0.size : Int)
            ·rw [if_pos c30] at H
             have c30b0 := eq_true c30
             have c30b1 : decide (1 ≤ (a0.size : Int)) = true := decide_eq_true c30
             clear c30
             replace H := Option.bind_eq_some_iff.mp H
             obtain ⟨t276, A310, H⟩ := H
             replace H : (newsreelref17_zone.j2 k2 a0 (decide (t276 < 0))) = some (r1, r2, r3) := H
             have A31 := mkA A310
             clear A310
             as_aux_lemma =>
              have H' := mkA H
              clear H
              have p24 : 0 ≤ (0 : Int) := (by omega)
              have q24 : 0 < a0.size := (by have : (0 : Int) < (a0.size : Int) := odt; omega)
              have hx24 : ∀ h : 0 < a0.size, ((a0[0]'h).toNat : Int) = bt a0 0 := bt_at a0 0
              clear p24
              have qi24 : (0 < (a0.size : Int)) = True := eq_true (odt)
              replace q24 := eq_true q24
              have p28 : 0 ≤ (0 : Int) := (by omega)
              have q28 : 0 < a0.size := (by have : (0 : Int) < (a0.size : Int) := odt; omega)
              have hx28 : ∀ h : 0 < a0.size, ((a0[0]'h).toNat : Int) = bt a0 0 := bt_at a0 0
              clear p28
              have qi28 : (0 < (a0.size : Int)) = True := eq_true (odt)
              replace q28 := eq_true q28
              go_wp2_with (first | (go_at_call 41; (with_reducible refine (newsreelref17_Number.calls k2 (a0.extract 1 a0.size) 4 t276 _ A31.out).mono ?_); rintro e w' ⟨rfl, ⟨nd, rfl⟩⟩; (try first | exact ⟨rfl, _, World.drewN_drewN _ _ _⟩ | exact ⟨rfl, _, Eq.trans (World.drewN_drewN _ _ _) (congrArg (World.drewN _) (Nat.add_assoc _ _ _))⟩)))
              repeat (go_quiet (first | (go_at_call 41; (with_reducible refine (newsreelref17_Number.calls k2 (a0.extract 1 a0.size) 4 t276 _ A31.out).mono ?_); rintro e w' ⟨rfl, ⟨nd, rfl⟩⟩; (try first | exact ⟨rfl, _, World.drewN_drewN _ _ _⟩ | exact ⟨rfl, _, Eq.trans (World.drewN_drewN _ _ _) (congrArg (World.drewN _) (Nat.add_assoc _ _ _))⟩))); try go_wp2_with (first | (go_at_call 41; (with_reducible refine (newsreelref17_Number.calls k2 (a0.extract 1 a0.size) 4 t276 _ A31.out).mono ?_); rintro e w' ⟨rfl, ⟨nd, rfl⟩⟩; (try first | exact ⟨rfl, _, World.drewN_drewN _ _ _⟩ | exact ⟨rfl, _, Eq.trans (World.drewN_drewN _ _ _) (congrArg (World.drewN _) (Nat.add_assoc _ _ _))⟩))))
              go_meet
              case rel => exact ⟨_, (decide (t276 < 0)), (by first | rfl | (simp; done) | (simp [*]; done)), H', ⟨by have := HJ2.out; have := HK2.out; first | omega | exact Nat.le_refl _⟩, ⟨below_y HB.out⟩⟩
            ·rw [if_neg c30] at H
             exact absurd H (by simp)
           ·rw [if_neg c29] at H
            have c29b0 : ((bt a0 0) == 45) = false := beq_eq_false_iff_ne.mpr c29
            have c29b1 : ((bt a0 0) != 45) = true := bne_iff_ne.mpr c29
            as_aux_lemma =>
             have H' := mkA H
             clear H
             have p24 : 0 ≤ (0 : Int) := (by omega)
             have q24 : 0 < a0.size := (by have : (0 : Int) < (a0.size : Int) := odt; omega)
             have hx24 : ∀ h : 0 < a0.size, ((a0[0]'h).toNat : Int) = bt a0 0 := bt_at a0 0
             clear p24
             have qi24 : (0 < (a0.size : Int)) = True := eq_true (odt)
             replace q24 := eq_true q24
             have p28 : 0 ≤ (0 : Int) := (by omega)
             have q28 : 0 < a0.size := (by have : (0 : Int) < (a0.size : Int) := odt; omega)
             have hx28 : ∀ h : 0 < a0.size, ((a0[0]'h).toNat : Int) = bt a0 0 := bt_at a0 0
             clear p28
             have qi28 : (0 < (a0.size : Int)) = True := eq_true (odt)
             replace q28 := eq_true q28
             go_wp2
             repeat (go_quiet (fail); try go_wp2)
             go_meet
             case rel => exact ⟨_, (true), (by first | rfl | (simp; done) | (simp [*]; done)), H', ⟨by have := HJ2.out; have := HK2.out; first | omega | exact Nat.le_refl _⟩, ⟨below_y HB.out⟩⟩
         ·rw [if_neg c23] at H
          exact absurd H (by simp)
        ·rw [if_neg c22] at H
         have c22b0 : ((a0.size : Int) == 5) = false := beq_eq_false_iff_ne.mpr c22
         have c22b1 : ((a0.size : Int) != 5) = true := bne_iff_ne.mpr c22
         (first | rw [c22b0] | (simp only [i64_w, i32_w]; rw [c22b0]) | skip)
         as_aux_lemma =>
          have H' := mkA H
          clear H
          go_wp2
          repeat (go_quiet (fail); try go_wp2)
          go_meet
          case rel => exact ⟨_, (true), (by first | rfl | (simp; done) | (simp [*]; done)), H', ⟨by have := HJ2.out; have := HK2.out; first | omega | exact Nat.le_refl _⟩, ⟨below_y HB.out⟩⟩
       case rest =>
        clear HC20
        try clear c1
        try clear c2
        try clear p2
        try clear q2
        try clear hx2
        try clear qi2
        try clear c3
        try clear c4
        try clear c5
        try clear c5b0
        try clear c5b1
        try clear c6
        try clear c6b0
        try clear c6b1
        try clear p6
        try clear c7
        try clear c7b0
        try clear c7b1
        try clear c8
        try clear c13
        try clear c13b0
        try clear c14
        try clear c14b0
        try clear c15
        try clear c15b0
        try clear c15b1
        try clear c16
        try clear c16b0
        try clear c22
        try clear c22b0
        try clear c22b1
        try clear c23
        try clear c23b0
        try clear c23b1
        try clear p24
        try clear q24
        try clear hx24
        try clear qi24
        try clear c25
        try clear c25b0
        try clear c25b1
        try clear c26
        try clear c26b0
        try clear c26b1
        try clear p27
        try clear q27
        try clear hx27
        try clear p28
        try clear q28
        try clear hx28
        try clear qi28
        try clear c29
        try clear c29b0
        try clear c29b1
        try clear c30
        try clear c30b0
        try clear c30b1
        try clear hx273_0
        try clear hx274_0
        try clear p2
        try clear p24
        try clear p273
        try clear p274
        try clear p28
        try clear q24
        try clear q273
        try clear q274
        try clear q28
        obtain ⟨kq, x64_19, rfl, HA, HJ19, HB⟩ := hcut
        cases kq with
        | zero => exact absurd HA.out (by simp [newsreelref17_zone.j2])
        | succ kj19 =>
         have H := HA.out
         clear HA
         simp only [newsreelref17_zone.j2] at H
         by_cases c32 : x64_19 = true
         ·subst c32
          have H1 : (some (0, false, false)) = some (r1, r2, r3) := by rw [if_pos rfl] at H; exact H
          clear H
          have H := H1
          clear H1
          as_aux_lemma =>
           simp only [Option.some.injEq, Prod.mk.injEq] at H
           obtain ⟨rfl, rfl, rfl⟩ := H
           go_wp2
           repeat (go_quiet (fail); try go_wp2)
           go_ret3
           exact ⟨by first | rfl | (simp [errW_none, errW_some] <;> rfl) | (simp [*, errW_none, errW_some] <;> rfl), below_y HB.out⟩
         ·replace c32 := Bool.eq_false_iff.mpr c32
          subst c32
          have H1 : (if 1 ≤ 3 then (if 3 ≤ (a0.size : Int) then ((newsreelref17_Number.f kj19 (a0.extract 1 3) 2).bind fun t277 => ((newsreelref17_Number.f kj19 (a0.extract 3 a0.size) 2).bind fun t278 => (if 0 < (a0.size : Int) then (if (bt a0 0) = 45 then (if t277 ≤ 23 then (some (wrap64 ((wrap64 ((-60) * t277)) - t278), decide (t278 ≤ 59), true)) else (some (wrap64 ((wrap64 ((-60) * t277)) - t278), false, true))) else (if t277 ≤ 23 then (some (wrap64 ((wrap64 (60 * t277)) + t278), decide (t278 ≤ 59), true)) else (some (wrap64 ((wrap64 (60 * t277)) + t278), false, true)))) else (none)))) else (none)) else (none)) = some (r1, r2, r3) := by rw [if_neg (show ¬ (false = true) by decide)] at H; exact H
          clear H
          have H := H1
          clear H1
          by_cases c33 : 1 ≤ 3
          ·rw [if_pos c33] at H
           have c33b0 := eq_true c33
           have c33b1 : decide (1 ≤ 3) = true := decide_eq_true c33
           clear c33
           by_cases c34 : 3 ≤ (a0.size : Int)
           ·rw [if_pos c34] at H
            have c34b0 := eq_true c34
            have c34b1 : decide (3 ≤ (a0.size : Int)) = true := decide_eq_true c34
            clear c34
            replace H := Option.bind_eq_some_iff.mp H
            obtain ⟨t277, A350, H⟩ := H
            replace H : ((newsreelref17_Number.f kj19 (a0.extract 3 a0.size) 2).bind fun t278 => (if 0 < (a0.size : Int) then (if (bt a0 0) = 45 then (if t277 ≤ 23 then (some (wrap64 ((wrap64 ((-60) * t277)) - t278), decide (t278 ≤ 59), true)) else (some (wrap64 ((wrap64 ((-60) * t277)) - t278), false, true))) else (if t277 ≤ 23 then (some (wrap64 ((wrap64 (60 * t277)) + t278), decide (t278 ≤ 59), true)) else (some (wrap64 ((wrap64 (60 * t277)) + t278), false, true)))) else (none))) = some (r1, r2, r3) := H
            have A35 := mkA A350
            clear A350
            have c36b0 := eq_true (odt : 3 ≤ (a0.size : Int))
            replace H := Option.bind_eq_some_iff.mp H
            obtain ⟨t278, A370, H⟩ := H
            replace H : (if 0 < (a0.size : Int) then (if (bt a0 0) = 45 then (if t277 ≤ 23 then (some (wrap64 ((wrap64 ((-60) * t277)) - t278), decide (t278 ≤ 59), true)) else (some (wrap64 ((wrap64 ((-60) * t277)) - t278), false, true))) else (if t277 ≤ 23 then (some (wrap64 ((wrap64 (60 * t277)) + t278), decide (t278 ≤ 59), true)) else (some (wrap64 ((wrap64 (60 * t277)) + t278), false, true)))) else (none)) = some (r1, r2, r3) := H
            have A37 := mkA A370
            clear A370
            by_cases c38 : 0 < (a0.size : Int)
            ·rw [if_pos c38] at H
             have c38b0 : decide (0 < (a0.size : Int)) = true := decide_eq_true c38
             have c38b1 : decide (0 < a0.size) = true := decide_eq_true (by omega)
             clear c38
             by_cases c40 : (bt a0 0) = 45
             ·rw [if_pos c40] at H
              have c40b0 : ((bt a0 0) == 45) = true := beq_iff_eq.mpr c40
              have c40b1 : ((bt a0 0) != 45) = false := bne_eq_false_iff_eq.mpr c40
              clear c40
              by_cases c41 : t277 ≤ 23
              ·rw [if_pos c41] at H
               have c41b0 : decide (t277 ≤ 23) = true := decide_eq_true c41
               clear c41
               as_aux_lemma =>
                simp only [Option.some.injEq, Prod.mk.injEq] at H
                obtain ⟨rfl, rfl, rfl⟩ := H
                go_wp2_with (first | (go_at_call 41; (with_reducible refine (newsreelref17_Number.calls kj19 (a0.extract 1 3) 2 t277 _ A35.out).mono ?_); rintro e w' ⟨rfl, ⟨nd, rfl⟩⟩; (try first | exact ⟨rfl, _, World.drewN_drewN _ _ _⟩ | exact ⟨rfl, _, Eq.trans (World.drewN_drewN _ _ _) (congrArg (World.drewN _) (Nat.add_assoc _ _ _))⟩)) | (go_at_call 41; (with_reducible refine (newsreelref17_Number.calls kj19 (a0.extract 3 a0.size) 2 t278 _ A37.out).mono ?_); rintro e w' ⟨rfl, ⟨nd, rfl⟩⟩; (try first | exact ⟨rfl, _, World.drewN_drewN _ _ _⟩ | exact ⟨rfl, _, Eq.trans (World.drewN_drewN _ _ _) (congrArg (World.drewN _) (Nat.add_assoc _ _ _))⟩); have p39 : 0 ≤ (0 : Int) := (by omega); have q39 : 0 < a0.size := (by have : (0 : Int) < (a0.size : Int) := odt; omega); have hx39 : ∀ h : 0 < a0.size, ((a0[0]'h).toNat : Int) = bt a0 0 := bt_at a0 0; clear p39; have qi39 : (0 < (a0.size : Int)) = True := eq_true (odt); replace q39 := eq_true q39))
                repeat (go_quiet (first | (go_at_call 41; (with_reducible refine (newsreelref17_Number.calls kj19 (a0.extract 1 3) 2 t277 _ A35.out).mono ?_); rintro e w' ⟨rfl, ⟨nd, rfl⟩⟩; (try first | exact ⟨rfl, _, World.drewN_drewN _ _ _⟩ | exact ⟨rfl, _, Eq.trans (World.drewN_drewN _ _ _) (congrArg (World.drewN _) (Nat.add_assoc _ _ _))⟩)) | (go_at_call 41; (with_reducible refine (newsreelref17_Number.calls kj19 (a0.extract 3 a0.size) 2 t278 _ A37.out).mono ?_); rintro e w' ⟨rfl, ⟨nd, rfl⟩⟩; (try first | exact ⟨rfl, _, World.drewN_drewN _ _ _⟩ | exact ⟨rfl, _, Eq.trans (World.drewN_drewN _ _ _) (congrArg (World.drewN _) (Nat.add_assoc _ _ _))⟩); have p39 : 0 ≤ (0 : Int) := (by omega); have q39 : 0 < a0.size := (by have : (0 : Int) < (a0.size : Int) := odt; omega); have hx39 : ∀ h : 0 < a0.size, ((a0[0]'h).toNat : Int) = bt a0 0 := bt_at a0 0; clear p39; have qi39 : (0 < (a0.size : Int)) = True := eq_true (odt); replace q39 := eq_true q39)); try go_wp2_with (first | (go_at_call 41; (with_reducible refine (newsreelref17_Number.calls kj19 (a0.extract 1 3) 2 t277 _ A35.out).mono ?_); rintro e w' ⟨rfl, ⟨nd, rfl⟩⟩; (try first | exact ⟨rfl, _, World.drewN_drewN _ _ _⟩ | exact ⟨rfl, _, Eq.trans (World.drewN_drewN _ _ _) (congrArg (World.drewN _) (Nat.add_assoc _ _ _))⟩)) | (go_at_call 41; (with_reducible refine (newsreelref17_Number.calls kj19 (a0.extract 3 a0.size) 2 t278 _ A37.out).mono ?_); rintro e w' ⟨rfl, ⟨nd, rfl⟩⟩; (try first | exact ⟨rfl, _, World.drewN_drewN _ _ _⟩ | exact ⟨rfl, _, Eq.trans (World.drewN_drewN _ _ _) (congrArg (World.drewN _) (Nat.add_assoc _ _ _))⟩); have p39 : 0 ≤ (0 : Int) := (by omega); have q39 : 0 < a0.size := (by have : (0 : Int) < (a0.size : Int) := odt; omega); have hx39 : ∀ h : 0 < a0.size, ((a0[0]'h).toNat : Int) = bt a0 0 := bt_at a0 0; clear p39; have qi39 : (0 < (a0.size : Int)) = True := eq_true (odt); replace q39 := eq_true q39)))
                go_ret3
                exact ⟨by first | rfl | (simp [errW_none, errW_some] <;> rfl) | (simp [*, errW_none, errW_some] <;> rfl), below_y HB.out⟩
              ·rw [if_neg c41] at H
               have c41b0 : decide (t277 ≤ 23) = false := decide_eq_false c41
               clear c41
               as_aux_lemma =>
                simp only [Option.some.injEq, Prod.mk.injEq] at H
                obtain ⟨rfl, rfl, rfl⟩ := H
                go_wp2_with (first | (go_at_call 41; (with_reducible refine (newsreelref17_Number.calls kj19 (a0.extract 1 3) 2 t277 _ A35.out).mono ?_); rintro e w' ⟨rfl, ⟨nd, rfl⟩⟩; (try first | exact ⟨rfl, _, World.drewN_drewN _ _ _⟩ | exact ⟨rfl, _, Eq.trans (World.drewN_drewN _ _ _) (congrArg (World.drewN _) (Nat.add_assoc _ _ _))⟩)) | (go_at_call 41; (with_reducible refine (newsreelref17_Number.calls kj19 (a0.extract 3 a0.size) 2 t278 _ A37.out).mono ?_); rintro e w' ⟨rfl, ⟨nd, rfl⟩⟩; (try first | exact ⟨rfl, _, World.drewN_drewN _ _ _⟩ | exact ⟨rfl, _, Eq.trans (World.drewN_drewN _ _ _) (congrArg (World.drewN _) (Nat.add_assoc _ _ _))⟩); have p39 : 0 ≤ (0 : Int) := (by omega); have q39 : 0 < a0.size := (by have : (0 : Int) < (a0.size : Int) := odt; omega); have hx39 : ∀ h : 0 < a0.size, ((a0[0]'h).toNat : Int) = bt a0 0 := bt_at a0 0; clear p39; have qi39 : (0 < (a0.size : Int)) = True := eq_true (odt); replace q39 := eq_true q39))
                repeat (go_quiet (first | (go_at_call 41; (with_reducible refine (newsreelref17_Number.calls kj19 (a0.extract 1 3) 2 t277 _ A35.out).mono ?_); rintro e w' ⟨rfl, ⟨nd, rfl⟩⟩; (try first | exact ⟨rfl, _, World.drewN_drewN _ _ _⟩ | exact ⟨rfl, _, Eq.trans (World.drewN_drewN _ _ _) (congrArg (World.drewN _) (Nat.add_assoc _ _ _))⟩)) | (go_at_call 41; (with_reducible refine (newsreelref17_Number.calls kj19 (a0.extract 3 a0.size) 2 t278 _ A37.out).mono ?_); rintro e w' ⟨rfl, ⟨nd, rfl⟩⟩; (try first | exact ⟨rfl, _, World.drewN_drewN _ _ _⟩ | exact ⟨rfl, _, Eq.trans (World.drewN_drewN _ _ _) (congrArg (World.drewN _) (Nat.add_assoc _ _ _))⟩); have p39 : 0 ≤ (0 : Int) := (by omega); have q39 : 0 < a0.size := (by have : (0 : Int) < (a0.size : Int) := odt; omega); have hx39 : ∀ h : 0 < a0.size, ((a0[0]'h).toNat : Int) = bt a0 0 := bt_at a0 0; clear p39; have qi39 : (0 < (a0.size : Int)) = True := eq_true (odt); replace q39 := eq_true q39)); try go_wp2_with (first | (go_at_call 41; (with_reducible refine (newsreelref17_Number.calls kj19 (a0.extract 1 3) 2 t277 _ A35.out).mono ?_); rintro e w' ⟨rfl, ⟨nd, rfl⟩⟩; (try first | exact ⟨rfl, _, World.drewN_drewN _ _ _⟩ | exact ⟨rfl, _, Eq.trans (World.drewN_drewN _ _ _) (congrArg (World.drewN _) (Nat.add_assoc _ _ _))⟩)) | (go_at_call 41; (with_reducible refine (newsreelref17_Number.calls kj19 (a0.extract 3 a0.size) 2 t278 _ A37.out).mono ?_); rintro e w' ⟨rfl, ⟨nd, rfl⟩⟩; (try first | exact ⟨rfl, _, World.drewN_drewN _ _ _⟩ | exact ⟨rfl, _, Eq.trans (World.drewN_drewN _ _ _) (congrArg (World.drewN _) (Nat.add_assoc _ _ _))⟩); have p39 : 0 ≤ (0 : Int) := (by omega); have q39 : 0 < a0.size := (by have : (0 : Int) < (a0.size : Int) := odt; omega); have hx39 : ∀ h : 0 < a0.size, ((a0[0]'h).toNat : Int) = bt a0 0 := bt_at a0 0; clear p39; have qi39 : (0 < (a0.size : Int)) = True := eq_true (odt); replace q39 := eq_true q39)))
                go_ret3
                exact ⟨by first | rfl | (simp [errW_none, errW_some] <;> rfl) | (simp [*, errW_none, errW_some] <;> rfl), below_y HB.out⟩
             ·rw [if_neg c40] at H
              have c40b0 : ((bt a0 0) == 45) = false := beq_eq_false_iff_ne.mpr c40
              have c40b1 : ((bt a0 0) != 45) = true := bne_iff_ne.mpr c40
              by_cases c42 : t277 ≤ 23
              ·rw [if_pos c42] at H
               have c42b0 : decide (t277 ≤ 23) = true := decide_eq_true c42
               clear c42
               as_aux_lemma =>
                simp only [Option.some.injEq, Prod.mk.injEq] at H
                obtain ⟨rfl, rfl, rfl⟩ := H
                go_wp2_with (first | (go_at_call 41; (with_reducible refine (newsreelref17_Number.calls kj19 (a0.extract 1 3) 2 t277 _ A35.out).mono ?_); rintro e w' ⟨rfl, ⟨nd, rfl⟩⟩; (try first | exact ⟨rfl, _, World.drewN_drewN _ _ _⟩ | exact ⟨rfl, _, Eq.trans (World.drewN_drewN _ _ _) (congrArg (World.drewN _) (Nat.add_assoc _ _ _))⟩)) | (go_at_call 41; (with_reducible refine (newsreelref17_Number.calls kj19 (a0.extract 3 a0.size) 2 t278 _ A37.out).mono ?_); rintro e w' ⟨rfl, ⟨nd, rfl⟩⟩; (try first | exact ⟨rfl, _, World.drewN_drewN _ _ _⟩ | exact ⟨rfl, _, Eq.trans (World.drewN_drewN _ _ _) (congrArg (World.drewN _) (Nat.add_assoc _ _ _))⟩); have p39 : 0 ≤ (0 : Int) := (by omega); have q39 : 0 < a0.size := (by have : (0 : Int) < (a0.size : Int) := odt; omega); have hx39 : ∀ h : 0 < a0.size, ((a0[0]'h).toNat : Int) = bt a0 0 := bt_at a0 0; clear p39; have qi39 : (0 < (a0.size : Int)) = True := eq_true (odt); replace q39 := eq_true q39))
                repeat (go_quiet (first | (go_at_call 41; (with_reducible refine (newsreelref17_Number.calls kj19 (a0.extract 1 3) 2 t277 _ A35.out).mono ?_); rintro e w' ⟨rfl, ⟨nd, rfl⟩⟩; (try first | exact ⟨rfl, _, World.drewN_drewN _ _ _⟩ | exact ⟨rfl, _, Eq.trans (World.drewN_drewN _ _ _) (congrArg (World.drewN _) (Nat.add_assoc _ _ _))⟩)) | (go_at_call 41; (with_reducible refine (newsreelref17_Number.calls kj19 (a0.extract 3 a0.size) 2 t278 _ A37.out).mono ?_); rintro e w' ⟨rfl, ⟨nd, rfl⟩⟩; (try first | exact ⟨rfl, _, World.drewN_drewN _ _ _⟩ | exact ⟨rfl, _, Eq.trans (World.drewN_drewN _ _ _) (congrArg (World.drewN _) (Nat.add_assoc _ _ _))⟩); have p39 : 0 ≤ (0 : Int) := (by omega); have q39 : 0 < a0.size := (by have : (0 : Int) < (a0.size : Int) := odt; omega); have hx39 : ∀ h : 0 < a0.size, ((a0[0]'h).toNat : Int) = bt a0 0 := bt_at a0 0; clear p39; have qi39 : (0 < (a0.size : Int)) = True := eq_true (odt); replace q39 := eq_true q39)); try go_wp2_with (first | (go_at_call 41; (with_reducible refine (newsreelref17_Number.calls kj19 (a0.extract 1 3) 2 t277 _ A35.out).mono ?_); rintro e w' ⟨rfl, ⟨nd, rfl⟩⟩; (try first | exact ⟨rfl, _, World.drewN_drewN _ _ _⟩ | exact ⟨rfl, _, Eq.trans (World.drewN_drewN _ _ _) (congrArg (World.drewN _) (Nat.add_assoc _ _ _))⟩)) | (go_at_call 41; (with_reducible refine (newsreelref17_Number.calls kj19 (a0.extract 3 a0.size) 2 t278 _ A37.out).mono ?_); rintro e w' ⟨rfl, ⟨nd, rfl⟩⟩; (try first | exact ⟨rfl, _, World.drewN_drewN _ _ _⟩ | exact ⟨rfl, _, Eq.trans (World.drewN_drewN _ _ _) (congrArg (World.drewN _) (Nat.add_assoc _ _ _))⟩); have p39 : 0 ≤ (0 : Int) := (by omega); have q39 : 0 < a0.size := (by have : (0 : Int) < (a0.size : Int) := odt; omega); have hx39 : ∀ h : 0 < a0.size, ((a0[0]'h).toNat : Int) = bt a0 0 := bt_at a0 0; clear p39; have qi39 : (0 < (a0.size : Int)) = True := eq_true (odt); replace q39 := eq_true q39)))
                go_ret3
                exact ⟨by first | rfl | (simp [errW_none, errW_some] <;> rfl) | (simp [*, errW_none, errW_some] <;> rfl), below_y HB.out⟩
              ·rw [if_neg c42] at H
               have c42b0 : decide (t277 ≤ 23) = false := decide_eq_false c42
               clear c42
               as_aux_lemma =>
                simp only [Option.some.injEq, Prod.mk.injEq] at H
                obtain ⟨rfl, rfl, rfl⟩ := H
                go_wp2_with (first | (go_at_call 41; (with_reducible refine (newsreelref17_Number.calls kj19 (a0.extract 1 3) 2 t277 _ A35.out).mono ?_); rintro e w' ⟨rfl, ⟨nd, rfl⟩⟩; (try first | exact ⟨rfl, _, World.drewN_drewN _ _ _⟩ | exact ⟨rfl, _, Eq.trans (World.drewN_drewN _ _ _) (congrArg (World.drewN _) (Nat.add_assoc _ _ _))⟩)) | (go_at_call 41; (with_reducible refine (newsreelref17_Number.calls kj19 (a0.extract 3 a0.size) 2 t278 _ A37.out).mono ?_); rintro e w' ⟨rfl, ⟨nd, rfl⟩⟩; (try first | exact ⟨rfl, _, World.drewN_drewN _ _ _⟩ | exact ⟨rfl, _, Eq.trans (World.drewN_drewN _ _ _) (congrArg (World.drewN _) (Nat.add_assoc _ _ _))⟩); have p39 : 0 ≤ (0 : Int) := (by omega); have q39 : 0 < a0.size := (by have : (0 : Int) < (a0.size : Int) := odt; omega); have hx39 : ∀ h : 0 < a0.size, ((a0[0]'h).toNat : Int) = bt a0 0 := bt_at a0 0; clear p39; have qi39 : (0 < (a0.size : Int)) = True := eq_true (odt); replace q39 := eq_true q39))
                repeat (go_quiet (first | (go_at_call 41; (with_reducible refine (newsreelref17_Number.calls kj19 (a0.extract 1 3) 2 t277 _ A35.out).mono ?_); rintro e w' ⟨rfl, ⟨nd, rfl⟩⟩; (try first | exact ⟨rfl, _, World.drewN_drewN _ _ _⟩ | exact ⟨rfl, _, Eq.trans (World.drewN_drewN _ _ _) (congrArg (World.drewN _) (Nat.add_assoc _ _ _))⟩)) | (go_at_call 41; (with_reducible refine (newsreelref17_Number.calls kj19 (a0.extract 3 a0.size) 2 t278 _ A37.out).mono ?_); rintro e w' ⟨rfl, ⟨nd, rfl⟩⟩; (try first | exact ⟨rfl, _, World.drewN_drewN _ _ _⟩ | exact ⟨rfl, _, Eq.trans (World.drewN_drewN _ _ _) (congrArg (World.drewN _) (Nat.add_assoc _ _ _))⟩); have p39 : 0 ≤ (0 : Int) := (by omega); have q39 : 0 < a0.size := (by have : (0 : Int) < (a0.size : Int) := odt; omega); have hx39 : ∀ h : 0 < a0.size, ((a0[0]'h).toNat : Int) = bt a0 0 := bt_at a0 0; clear p39; have qi39 : (0 < (a0.size : Int)) = True := eq_true (odt); replace q39 := eq_true q39)); try go_wp2_with (first | (go_at_call 41; (with_reducible refine (newsreelref17_Number.calls kj19 (a0.extract 1 3) 2 t277 _ A35.out).mono ?_); rintro e w' ⟨rfl, ⟨nd, rfl⟩⟩; (try first | exact ⟨rfl, _, World.drewN_drewN _ _ _⟩ | exact ⟨rfl, _, Eq.trans (World.drewN_drewN _ _ _) (congrArg (World.drewN _) (Nat.add_assoc _ _ _))⟩)) | (go_at_call 41; (with_reducible refine (newsreelref17_Number.calls kj19 (a0.extract 3 a0.size) 2 t278 _ A37.out).mono ?_); rintro e w' ⟨rfl, ⟨nd, rfl⟩⟩; (try first | exact ⟨rfl, _, World.drewN_drewN _ _ _⟩ | exact ⟨rfl, _, Eq.trans (World.drewN_drewN _ _ _) (congrArg (World.drewN _) (Nat.add_assoc _ _ _))⟩); have p39 : 0 ≤ (0 : Int) := (by omega); have q39 : 0 < a0.size := (by have : (0 : Int) < (a0.size : Int) := odt; omega); have hx39 : ∀ h : 0 < a0.size, ((a0[0]'h).toNat : Int) = bt a0 0 := bt_at a0 0; clear p39; have qi39 : (0 < (a0.size : Int)) = True := eq_true (odt); replace q39 := eq_true q39)))
                go_ret3
                exact ⟨by first | rfl | (simp [errW_none, errW_some] <;> rfl) | (simp [*, errW_none, errW_some] <;> rfl), below_y HB.out⟩
            ·rw [if_neg c38] at H
             exact absurd H (by simp)
           ·rw [if_neg c34] at H
            exact absurd H (by simp)
          ·rw [if_neg c33] at H
           exact absurd H (by simp)

end Go.Proofs.YtghdkpcpgpfgcaaDoor.XStb
