import Derived.Test.YtghdkpcpgpfgcaaDoorXStbM0a
import Derived.Test.YtghdkpcpgpfgcaaDoorXStbx18
import Derived.Test.YtghdkpcpgpfgcaaDoorXStbx21
namespace Go.Proofs.YtghdkpcpgpfgcaaDoor.XStb
open Go.RowKit Go.Proofs.YtghdkpcpgpfgcaaDoorW.PrintWords Go.Proofs.YtghdkpcpgpfgcaaDoorW.PrintLast Go.Proofs.YtghdkpcpgpfgcaaDoorW.PrintMore
attribute [local go_sem] max2_int min2_int max_two min_two max_three min_three max_four min_four   -- for this text's walks alone
set_option linter.unusedVariables false
set_option linter.unusedSimpArgs false

/-! ### stamp_Get: function 6 -/
mutual
def stamp_Get.j1 : Nat → List ByteArray → Option (Int × Int)
 | 0, _ => none
 | k + 1, x4 => if (x4.length : Int) = 5 then ((stamp_parseDate.f k x4).bind fun bt162 => (if 3 < (x4.length : Int) then ((stamp_parseClock.f k (rdOf ByteArray.empty x4 3)).bind fun bt168 => (if 4 < (x4.length : Int) then ((stamp_zone.f k (rdOf ByteArray.empty x4 4)).bind fun bt174 => (if bt162.2.2.2 = true then (if bt168.2.2.2 = true then (stamp_Get.j2 k bt174.1 bt174.2 (bt174.2 == 2) bt162.1 bt162.2.1 bt162.2.2.1 bt168.1 bt168.2.1 bt168.2.2.1) else (stamp_Get.j2 k bt174.1 bt174.2 true bt162.1 bt162.2.1 bt162.2.2.1 bt168.1 bt168.2.1 bt168.2.2.1)) else (stamp_Get.j2 k bt174.1 bt174.2 true bt162.1 bt162.2.1 bt162.2.2.1 bt168.1 bt168.2.1 bt168.2.2.1))) else (none))) else (none))) else (some (0, 2))
def stamp_Get.j2 : Nat → Int → Int → Bool → Int → Int → Int → Int → Int → Int → Option (Int × Int)
 | 0, _, _, _, _, _, _, _, _, _ => none
 | k + 1, x11, x12, x66, x167000, x167001, x167002, x173000, x173001, x173002 => if x66 = true then (some (0, 2)) else (if x12 = 0 then (if x167000 < 1 then (stamp_Get.j3 k x11 true x167000 x167001 x167002 x173000 x173001 x173002) else ((stamp_Days.f x167002 x167001).bind fun t176 => (if x167000 > t176 then (stamp_Get.j3 k x11 true x167000 x167001 x167002 x173000 x173001 x173002) else (if x173000 > 23 then (stamp_Get.j3 k x11 true x167000 x167001 x167002 x173000 x173001 x173002) else (if x173001 > 59 then (stamp_Get.j3 k x11 true x167000 x167001 x167002 x173000 x173001 x173002) else (stamp_Get.j3 k x11 (decide (x173002 > 59)) x167000 x167001 x167002 x173000 x173001 x173002)))))) else (stamp_Get.j3 k x11 true x167000 x167001 x167002 x173000 x173001 x173002))
def stamp_Get.j3 : Nat → Int → Bool → Int → Int → Int → Int → Int → Int → Option (Int × Int)
 | 0, _, _, _, _, _, _, _, _ => none
 | k + 1, x11, x98, x167000, x167001, x167002, x173000, x173001, x173002 => if x98 = true then (some (0, 3)) else ((stamp_before.f k x167002 x167001).bind fun t177 => (some (wrap64 ((wrap64 ((wrap64 (86400 * (wrap64 ((wrap64 (t177 + x167000)) - 1)))) + (wrap64 ((wrap64 ((wrap64 (3600 * x173000)) + (wrap64 (60 * x173001)))) + x173002)))) - x11), 0)))
def stamp_Get.j0 : Nat → List ByteArray → Bool → Option (Int × Int)
 | 0, _, _ => none
 | k + 1, x4, x32 => if x32 = true then (some (0, 2)) else (if 1 ≤ (x4.length : Int) then (stamp_Get.j1 k (x4.drop 1)) else (none))
end
def stamp_Get.f (k : Nat) (a0 : ByteArray) : Option (Int × Int) := (stamp_fields.f a0).bind fun t150 => (if (t150.length : Int) = 6 then (if 0 < (t150.length : Int) then ((strings_CutSuffix.f (rdOf ByteArray.empty t150 0) (⟨#[44]⟩ : ByteArray)).bind fun bt154 => (if bt154.2 = true then ((stamp_index.f k (⟨#[116, 104, 117, 32, 102, 114, 105, 32, 115, 97, 116, 32, 115, 117, 110, 32, 109, 111, 110, 32, 116, 117, 101, 32, 119, 101, 100, 32]⟩ : ByteArray) bt154.1).bind fun t156 => (stamp_Get.j0 k t150 (decide (t156 < 0)))) else (stamp_Get.j0 k t150 true))) else (none)) else (stamp_Get.j1 k t150))
theorem stamp_Get.mono_l : ∀ k, (∀ y0, LeO (stamp_Get.j1 k y0) (stamp_Get.j1 (k + 1) y0)) ∧ (∀ y0 y1 y2 y3 y4 y5 y6 y7 y8, LeO (stamp_Get.j2 k y0 y1 y2 y3 y4 y5 y6 y7 y8) (stamp_Get.j2 (k + 1) y0 y1 y2 y3 y4 y5 y6 y7 y8)) ∧ (∀ y0 y1 y2 y3 y4 y5 y6 y7, LeO (stamp_Get.j3 k y0 y1 y2 y3 y4 y5 y6 y7) (stamp_Get.j3 (k + 1) y0 y1 y2 y3 y4 y5 y6 y7)) ∧ (∀ y0 y1, LeO (stamp_Get.j0 k y0 y1) (stamp_Get.j0 (k + 1) y0 y1))
 | 0 => ⟨fun _ r h => by simp [stamp_Get.j1] at h, fun _ _ _ _ _ _ _ _ _ r h => by simp [stamp_Get.j2] at h, fun _ _ _ _ _ _ _ _ r h => by simp [stamp_Get.j3] at h, fun _ _ r h => by simp [stamp_Get.j0] at h⟩
 | k + 1 => by
  obtain ⟨ih0, ih1, ih2, ih3⟩ := stamp_Get.mono_l k
  refine ⟨?_, ?_, ?_, ?_⟩
  ·intro y0
   unfold stamp_Get.j1
   repeat' first
   | (with_reducible exact ih0 _)
   | (with_reducible exact ih1 _ _ _ _ _ _ _ _ _)
   | (with_reducible exact ih2 _ _ _ _ _ _ _ _)
   | (with_reducible exact ih3 _ _)
   | (with_reducible exact stamp_before.mono _ _ _)
   | (with_reducible exact stamp_index.mono _ _ _)
   | (with_reducible exact stamp_parseClock.mono _ _)
   | (with_reducible exact stamp_parseDate.mono _ _)
   | (with_reducible exact stamp_zone.mono _ _)
   | (with_reducible exact LeO.refl _)
   | (with_reducible exact LeO.none _)
   | (with_reducible refine LeO.ite ?_ ?_)
   | (with_reducible refine LeO.bind ?_ (fun _ => ?_))
   | exact ih0 _
   | exact ih1 _ _ _ _ _ _ _ _ _
   | exact ih2 _ _ _ _ _ _ _ _
   | exact ih3 _ _
   | exact stamp_before.mono _ _ _
   | exact stamp_index.mono _ _ _
   | exact stamp_parseClock.mono _ _
   | exact stamp_parseDate.mono _ _
   | exact stamp_zone.mono _ _
   | exact LeO.none _
   | refine LeO.ite ?_ ?_
   | refine LeO.bind ?_ (fun _ => ?_)
  ·intro y0 y1 y2 y3 y4 y5 y6 y7 y8
   unfold stamp_Get.j2
   repeat' first
   | (with_reducible exact ih0 _)
   | (with_reducible exact ih1 _ _ _ _ _ _ _ _ _)
   | (with_reducible exact ih2 _ _ _ _ _ _ _ _)
   | (with_reducible exact ih3 _ _)
   | (with_reducible exact stamp_before.mono _ _ _)
   | (with_reducible exact stamp_index.mono _ _ _)
   | (with_reducible exact stamp_parseClock.mono _ _)
   | (with_reducible exact stamp_parseDate.mono _ _)
   | (with_reducible exact stamp_zone.mono _ _)
   | (with_reducible exact LeO.refl _)
   | (with_reducible exact LeO.none _)
   | (with_reducible refine LeO.ite ?_ ?_)
   | (with_reducible refine LeO.bind ?_ (fun _ => ?_))
   | exact ih0 _
   | exact ih1 _ _ _ _ _ _ _ _ _
   | exact ih2 _ _ _ _ _ _ _ _
   | exact ih3 _ _
   | exact stamp_before.mono _ _ _
   | exact stamp_index.mono _ _ _
   | exact stamp_parseClock.mono _ _
   | exact stamp_parseDate.mono _ _
   | exact stamp_zone.mono _ _
   | exact LeO.none _
   | refine LeO.ite ?_ ?_
   | refine LeO.bind ?_ (fun _ => ?_)
  ·intro y0 y1 y2 y3 y4 y5 y6 y7
   unfold stamp_Get.j3
   repeat' first
   | (with_reducible exact ih0 _)
   | (with_reducible exact ih1 _ _ _ _ _ _ _ _ _)
   | (with_reducible exact ih2 _ _ _ _ _ _ _ _)
   | (with_reducible exact ih3 _ _)
   | (with_reducible exact stamp_before.mono _ _ _)
   | (with_reducible exact stamp_index.mono _ _ _)
   | (with_reducible exact stamp_parseClock.mono _ _)
   | (with_reducible exact stamp_parseDate.mono _ _)
   | (with_reducible exact stamp_zone.mono _ _)
   | (with_reducible exact LeO.refl _)
   | (with_reducible exact LeO.none _)
   | (with_reducible refine LeO.ite ?_ ?_)
   | (with_reducible refine LeO.bind ?_ (fun _ => ?_))
   | exact ih0 _
   | exact ih1 _ _ _ _ _ _ _ _ _
   | exact ih2 _ _ _ _ _ _ _ _
   | exact ih3 _ _
   | exact stamp_before.mono _ _ _
   | exact stamp_index.mono _ _ _
   | exact stamp_parseClock.mono _ _
   | exact stamp_parseDate.mono _ _
   | exact stamp_zone.mono _ _
   | exact LeO.none _
   | refine LeO.ite ?_ ?_
   | refine LeO.bind ?_ (fun _ => ?_)
  ·intro y0 y1
   unfold stamp_Get.j0
   repeat' first
   | (with_reducible exact ih0 _)
   | (with_reducible exact ih1 _ _ _ _ _ _ _ _ _)
   | (with_reducible exact ih2 _ _ _ _ _ _ _ _)
   | (with_reducible exact ih3 _ _)
   | (with_reducible exact stamp_before.mono _ _ _)
   | (with_reducible exact stamp_index.mono _ _ _)
   | (with_reducible exact stamp_parseClock.mono _ _)
   | (with_reducible exact stamp_parseDate.mono _ _)
   | (with_reducible exact stamp_zone.mono _ _)
   | (with_reducible exact LeO.refl _)
   | (with_reducible exact LeO.none _)
   | (with_reducible refine LeO.ite ?_ ?_)
   | (with_reducible refine LeO.bind ?_ (fun _ => ?_))
   | exact ih0 _
   | exact ih1 _ _ _ _ _ _ _ _ _
   | exact ih2 _ _ _ _ _ _ _ _
   | exact ih3 _ _
   | exact stamp_before.mono _ _ _
   | exact stamp_index.mono _ _ _
   | exact stamp_parseClock.mono _ _
   | exact stamp_parseDate.mono _ _
   | exact stamp_zone.mono _ _
   | exact LeO.none _
   | refine LeO.ite ?_ ?_
   | refine LeO.bind ?_ (fun _ => ?_)
theorem stamp_Get.mono : ∀ a0 k, LeO (stamp_Get.f k a0) (stamp_Get.f (k + 1) a0) := by
 intro a0 k
 obtain ⟨ih0, ih1, ih2, ih3⟩ := stamp_Get.mono_l k
 unfold stamp_Get.f
 repeat' first
   | (with_reducible exact ih0 _)
   | (with_reducible exact ih1 _ _ _ _ _ _ _ _ _)
   | (with_reducible exact ih2 _ _ _ _ _ _ _ _)
   | (with_reducible exact ih3 _ _)
   | (with_reducible exact stamp_before.mono _ _ _)
   | (with_reducible exact stamp_index.mono _ _ _)
   | (with_reducible exact stamp_parseClock.mono _ _)
   | (with_reducible exact stamp_parseDate.mono _ _)
   | (with_reducible exact stamp_zone.mono _ _)
   | (with_reducible exact LeO.refl _)
   | (with_reducible exact LeO.none _)
   | (with_reducible refine LeO.ite ?_ ?_)
   | (with_reducible refine LeO.bind ?_ (fun _ => ?_))
   | exact ih0 _
   | exact ih1 _ _ _ _ _ _ _ _ _
   | exact ih2 _ _ _ _ _ _ _ _
   | exact ih3 _ _
   | exact stamp_before.mono _ _ _
   | exact stamp_index.mono _ _ _
   | exact stamp_parseClock.mono _ _
   | exact stamp_parseDate.mono _ _
   | exact stamp_zone.mono _ _
   | exact LeO.none _
   | refine LeO.ite ?_ ?_
   | refine LeO.bind ?_ (fun _ => ?_)
def stamp_Get.T14 : Bool × List (List Nat × List Nat) := (true, [([], []), ([0], [0]), ([1], [1]), ([2], [2]), ([3, 2], [2, 3]), ([4, 2], [2, 4]), ([2, 5], [2, 5]), ([6, 2], [6]), ([7], [7]), ([8, 7], [7, 8]), ([7], [7]), ([10, 7], [7, 10]), ([7], [7]), ([12, 7], [7, 12]), ([11, 13, 7, 7], [7, 11, 13]), ([9, 14, 7], [7, 9, 14]), ([7, 15], [7, 15]), ([16, 14], [16]), ([17], [17]), ([18, 17], [17, 18]), ([19, 17], [17, 19]), ([17, 20], [17, 20]), ([21, 17], [21]), ([22], [22]), ([23, 22], [22, 23]), ([24, 22], [22, 24]), ([22, 25], [22, 25]), ([26, 22], [26]), ([27], [27]), ([28, 27], [27, 28]), ([29, 27], [27, 29]), ([27, 30], [27, 30])])
def stamp_Get.B14 : List Nat := [0, 1, 3, 7, 15, 31, 63, 127, 255, 511, 255, 1279, 255, 4351, 15615, 32767, 65535, 131071, 262143, 524287, 1048575, 2097151, 4194303, 8388607, 16777215, 33554431, 67108863, 134217727, 268435455, 536870911, 1073741823, 2147483647]
theorem stamp_Get.tab14 : rtab .any (opsOf Tryd.f6 14) = stamp_Get.T14 := by kernel_rfl
theorem stamp_Get.bits14 : waitsOk stamp_Get.T14.2 stamp_Get.B14 = true := by kernel_rfl
def stamp_Get.T16 : Bool × List (List Nat × List Nat) := (true, [([], []), ([0], [0]), ([], []), ([2], [2]), ([1, 3], [1, 3]), ([], []), ([5], [5]), ([4, 6], [4, 6]), ([7], [7]), ([8], [8]), ([], []), ([10], [10]), ([11], [11]), ([], []), ([13], [13]), ([14], [14]), ([12, 15], [12, 15]), ([], []), ([17], [17]), ([16, 18], [16, 18]), ([9, 19], [9, 19]), ([20, 4, 0, 1, 2, 3, 4, 5, 6, 7, 8, 9, 10, 11, 12, 13, 14, 15, 16, 17, 18, 19, 20], [20])])
def stamp_Get.B16 : List Nat := [0, 1, 0, 4, 15, 0, 32, 127, 255, 511, 0, 1024, 3072, 0, 8192, 24576, 64512, 0, 131072, 523264, 1048575, 2097151]
theorem stamp_Get.tab16 : rtab .any (opsOf Tryd.f6 16) = stamp_Get.T16 := by kernel_rfl
theorem stamp_Get.bits16 : waitsOk stamp_Get.T16.2 stamp_Get.B16 = true := by kernel_rfl
set_option maxHeartbeats 8000000 in
set_option maxRecDepth 100000 in
theorem stamp_Get.calls (k : Nat) (a0 : ByteArray) (r1 : Int) (r2 : Int) (w : World) (hG : Gw w) (h : stamp_Get.f k a0 = some (r1, r2)) :
  Calls Tryd.prog 6 #[.string a0] w fun e w' => e = .returned (.tuple #[.int .i64 r1, .int .i64 r2]) ∧ Below w.heap.size w w' := by
 have hu41 := Tryd.underlying41
 have hu45 := Tryd.underlying45
 have HB := mkA (Below.refl w.heap.size w)
 have H : ((stamp_fields.f a0).bind fun t150 => (if (t150.length : Int) = 6 then (if 0 < (t150.length : Int) then ((strings_CutSuffix.f (rdOf ByteArray.empty t150 0) (⟨#[44]⟩ : ByteArray)).bind fun bt154 => (if bt154.2 = true then ((stamp_index.f k (⟨#[116, 104, 117, 32, 102, 114, 105, 32, 115, 97, 116, 32, 115, 117, 110, 32, 109, 111, 110, 32, 116, 117, 101, 32, 119, 101, 100, 32]⟩ : ByteArray) bt154.1).bind fun t156 => (stamp_Get.j0 k t150 (decide (t156 < 0)))) else (stamp_Get.j0 k t150 true))) else (none)) else (stamp_Get.j1 k t150))) = some (r1, r2) := h
 clear h
 replace H := Option.bind_eq_some_iff.mp H
 obtain ⟨t150, A20, H⟩ := H
 replace H : (if (t150.length : Int) = 6 then (if 0 < (t150.length : Int) then ((strings_CutSuffix.f (rdOf ByteArray.empty t150 0) (⟨#[44]⟩ : ByteArray)).bind fun bt154 => (if bt154.2 = true then ((stamp_index.f k (⟨#[116, 104, 117, 32, 102, 114, 105, 32, 115, 97, 116, 32, 115, 117, 110, 32, 109, 111, 110, 32, 116, 117, 101, 32, 119, 101, 100, 32]⟩ : ByteArray) bt154.1).bind fun t156 => (stamp_Get.j0 k t150 (decide (t156 < 0)))) else (stamp_Get.j0 k t150 true))) else (none)) else (stamp_Get.j1 k t150)) = some (r1, r2) := H
 have A2 := mkA A20
 clear A20
 have HC3 := mkA H
 clear H
 go_enter Tryd.func6, Tryd.ntmps6
 go_upto_if 18 with (first | ((with_reducible refine gate_callee (f := 12) rfl ?_); refine goesL_ (some 15) rfl rfl Tryd.func12 (by kernel_rfl) rfl #[.string a0] rfl ca ?_; (with_reducible refine (stamp_fields.calls a0 t150 _ A2.out).mono ?_); rintro e w4 ⟨v151, rfl, ho0, hb⟩; refine ⟨_, rfl, ?_⟩; have n0_ := mkA (Kd.V_lower (Kd.V_mono (ok' := fun k_ => True) ho0 (fun k_ hk_ => trivial)) (below_size (below_y HB.out))); have n1_ := mkA (below_step (below_y HB.out) hb); clear HB; have HO152 := n0_; have HB := n1_; clear n0_ n1_; (try clear hb); (try clear hb2); (try clear hk); (try clear hi); (try clear ho0); obtain ⟨Ao5, co5, eo5⟩ := Kd.V_slice HO152.out; subst eo5))
 (try simp only [Act.put, sA, s0, sS])
 go_cut [4] (fun v4 wc => ∃ (kq : Nat) (x4_2 : List ByteArray), Aside0 (stamp_Get.j1 kq x4_2 = some (r1, r2)) ∧ Aside0 (kq ≤ k) ∧ Aside0 (Kd.V Kd.string 9 wc w.heap.size (fun _ => True) v4 x4_2) ∧ Aside0 (Below w.heap.size w wc))
 case first =>
  have H := HC3.out
  clear HC3
  by_cases c6 : (t150.length : Int) = 6
  ·rw [if_pos c6] at H
   have c6b0 : ((t150.length : Int) == 6) = true := beq_iff_eq.mpr c6
   have c6b1 : ((t150.length : Int) != 6) = false := bne_eq_false_iff_eq.mpr c6
   clear c6
   (first | rw [c6b0] | (simp only [i64_w, i32_w]; rw [c6b0]) | skip)
   by_cases c7 : 0 < (t150.length : Int)
   ·rw [if_pos c7] at H
    have c7b0 : decide (0 < (t150.length : Int)) = true := decide_eq_true c7
    have c7b1 : decide (0 < t150.length) = true := decide_eq_true (by omega)
    clear c7
    replace H := Option.bind_eq_some_iff.mp H
    obtain ⟨⟨t154, t155⟩, A80, H⟩ := H
    replace H : (if t155 = true then ((stamp_index.f k (⟨#[116, 104, 117, 32, 102, 114, 105, 32, 115, 97, 116, 32, 115, 117, 110, 32, 109, 111, 110, 32, 116, 117, 101, 32, 119, 101, 100, 32]⟩ : ByteArray) t154).bind fun t156 => (stamp_Get.j0 k t150 (decide (t156 < 0)))) else (stamp_Get.j0 k t150 true)) = some (r1, r2) := H
    have A8 := mkA A80
    clear A80
    have HC9 := mkA H
    clear H
    have p153 : 0 ≤ (0 : Int) := (by omega)
    have q153 : 0 < (t150.length : Int) := odt
    obtain ⟨ad153, e153, hx153_0⟩ := Kd.at_string (Kd.V_reads' HO152.out).2.2 0 p153 q153
    cases e153
    have qi153 : (0 < t150.length) = True := eq_true (by omega)
    (try rw [show ((0 : Int)).toNat = 0 from rfl] at hx153_0)
    (try rw [Addr.add_zero'] at hx153_0)
    replace p153 := eq_true p153
    replace q153 := eq_true q153
    go_upto_region 4 with (first | ((with_reducible refine gate_callee (f := 13) rfl ?_); refine goesL_ (some 23) rfl rfl Tryd.func13 (by kernel_rfl) rfl #[.string (rdOf ByteArray.empty t150 0), .string (⟨#[44]⟩ : ByteArray)] rfl ca ?_; (with_reducible refine (strings_CutSuffix.calls (rdOf ByteArray.empty t150 0) (⟨#[44]⟩ : ByteArray) t154 t155 _ A8.out).mono ?_); rintro e w' ⟨rfl, ⟨nd, rfl⟩⟩; refine ⟨_, rfl, ?_⟩))
    (try simp only [Act.put, sA, s0, sS])
    go_cut [32] (fun v32 wc => ∃ (kq : Nat) (x32_8 : Bool), v32 = .bool x32_8 ∧ Aside0 (stamp_Get.j0 kq t150 x32_8 = some (r1, r2)) ∧ Aside0 (kq ≤ k) ∧ Aside0 (Kd.V Kd.string 9 wc w.heap.size (fun _ => True) (.slice (some ad153) t150.length co5) t150) ∧ Aside0 (Below w.heap.size w wc))
    case first =>
     have H := HC9.out
     clear HC9
     by_cases c10 : t155 = true
     ·subst c10
      have H1 : ((stamp_index.f k (⟨#[116, 104, 117, 32, 102, 114, 105, 32, 115, 97, 116, 32, 115, 117, 110, 32, 109, 111, 110, 32, 116, 117, 101, 32, 119, 101, 100, 32]⟩ : ByteArray) t154).bind fun t156 => (stamp_Get.j0 k t150 (decide (t156 < 0)))) = some (r1, r2) := by rw [if_pos rfl] at H; exact H
      clear H
      have H := H1
      clear H1
      replace H := Option.bind_eq_some_iff.mp H
      obtain ⟨t156, A110, H⟩ := H
      replace H : (stamp_Get.j0 k t150 (decide (t156 < 0))) = some (r1, r2) := H
      have A11 := mkA A110
      clear A110
      as_aux_lemma =>
       have H' := mkA H
       clear H
       go_wp2_with (first | (go_at_call 14; (with_reducible refine (stamp_index.calls (hG := ?sideG) k (⟨#[116, 104, 117, 32, 102, 114, 105, 32, 115, 97, 116, 32, 115, 117, 110, 32, 109, 111, 110, 32, 116, 117, 101, 32, 119, 101, 100, 32]⟩ : ByteArray) t154 t156 _ A11.out).mono ?_); (case sideG => exact gG hG (below_y HB.out)); rintro e w12 ⟨rfl, hb⟩; have n0_ := mkA (Kd.V_below (Kd.V_y HO152.out) hb); have n1_ := mkA (below_step (below_y HB.out) hb); clear HO152; clear HB; have HO152 := n0_; have HB := n1_; clear n0_ n1_; (try clear hb); (try clear hb2); (try clear hk); (try clear hi)))
       go_meet
       case rel => exact ⟨_, (decide (t156 < 0)), (by first | rfl | (simp; done) | (simp [*]; done)), H', ⟨by first | omega | exact Nat.le_refl _⟩, ⟨by (with_reducible repeat (first | apply Kd.V_alloc | apply Kd.V_drewN | apply Kd.V_drew)); exact HO152.out⟩, ⟨below_y HB.out⟩⟩
     ·replace c10 := Bool.eq_false_iff.mpr c10
      subst c10
      have H1 : (stamp_Get.j0 k t150 true) = some (r1, r2) := by rw [if_neg (show ¬ (false = true) by decide)] at H; exact H
      clear H
      have H := H1
      clear H1
      as_aux_lemma =>
       have H' := mkA H
       clear H
       go_wp2
       go_meet
       case rel => exact ⟨_, (true), (by first | rfl | (simp; done) | (simp [*]; done)), H', ⟨by first | omega | exact Nat.le_refl _⟩, ⟨by (with_reducible repeat (first | apply Kd.V_alloc | apply Kd.V_drewN | apply Kd.V_drew)); exact HO152.out⟩, ⟨below_y HB.out⟩⟩
    case rest =>
     clear HC9
     try clear c1
     try clear p1
     try clear q1
     try clear hx1
     try clear qi1
     try clear p2
     try clear c6
     try clear c6b0
     try clear c6b1
     try clear c7
     try clear c7b0
     try clear c7b1
     try clear c10
     try clear c12
     try clear hx153_0
     try clear p153
     try clear q153
     obtain ⟨kq, x32_8, rfl, HA, HJ8, HO_4, HB⟩ := hcut
     cases kq with
     | zero => exact absurd HA.out (by simp [stamp_Get.j0])
     | succ kj8 =>
      have H := HA.out
      clear HA
      simp only [stamp_Get.j0] at H
      by_cases c13 : x32_8 = true
      ·subst c13
       have H1 : (some (0, 2)) = some (r1, r2) := by rw [if_pos rfl] at H; exact H
       clear H
       have H := H1
       clear H1
       as_aux_lemma =>
        simp only [Option.some.injEq, Prod.mk.injEq] at H
        obtain ⟨rfl, rfl⟩ := H
        go_wp2
        go_ret2
        exact ⟨by first | rfl | (simp [errW_none, errW_some] <;> rfl) | (simp [*, errW_none, errW_some] <;> rfl), below_y HB.out⟩
      ·replace c13 := Bool.eq_false_iff.mpr c13
       subst c13
       have H1 : (if 1 ≤ (t150.length : Int) then (stamp_Get.j1 kj8 (t150.drop 1)) else (none)) = some (r1, r2) := by rw [if_neg (show ¬ (false = true) by decide)] at H; exact H
       clear H
       have H := H1
       clear H1
       by_cases c14 : 1 ≤ (t150.length : Int)
       ·rw [if_pos c14] at H
        have c14b0 := eq_true c14
        have c14b1 : decide (1 ≤ (t150.length : Int)) = true := decide_eq_true c14
        clear c14
        obtain ⟨y157, hy157⟩ : ∃ y_ : List ByteArray, y_ = (t150.drop 1) := ⟨_, rfl⟩
        replace H : (stamp_Get.j1 kj8 y157) = some (r1, r2) := by first | (rw [hy157]; with_reducible exact H) | (have H2_ := (Option.bind_some _ _).symm.trans H; rw [hy157]; with_reducible exact H2_) | (have H2_ := (Option.bind_some _ _).symm.trans H; with_reducible exact H2_) | with_reducible exact H | (rw [hy157]; exact H) | exact H
        have Ny157 := mkA hy157
        clear hy157
        as_aux_lemma =>
         have H' := mkA H
         clear H
         have q15 : (1 : Int) ≤ ((t150.length : Int) : Int) := odt
         obtain ⟨i015, hi015, _, hsz15, _⟩ := info_parts info9
         have hroom15 : t150.length ≤ co5 := (Kd.V_reads' HO_4.out).2.1
         have hC15 : Kd.F Kd.string _ _ (some ad153) t150.length t150 := (Kd.V_at (base := w.heap.size) HO_4.out).2.2
         have hcut15 := cut_from (P := Tryd.prog) 35 9 .i64 Tryd.underlying35 hi015 1 hsz15 (some ad153) t150.length co5 1 (by omega) q15
         have hr15 := Kd.F_cut (m := (1 : Int).toNat) (c := co5) hC15 (by omega) hroom15
         obtain ⟨A15, hA15⟩ : ∃ Az_, Az_ = (if co5 = (1 : Int).toNat then (some ad153) else ((some ad153) : Option Addr).map (·.add ((1 : Int).toNat * 1))) := ⟨_, rfl⟩
         obtain ⟨c15, hc15⟩ : ∃ cz_, cz_ = co5 - (1 : Int).toNat := ⟨_, rfl⟩
         have hy15 : y157.length = t150.length - (1 : Int).toNat := (by rw [Ny157.out, List.length_drop] <;> omega)
         rw [show (t150).drop (1 : Int).toNat = y157 from Ny157.out.symm] at hr15
         replace hr15 : Kd.F Kd.string _ _ A15 y157.length y157 := (by rw [hA15]; exact hr15)
         rw [← hy15, ← hA15, ← hc15] at hcut15
         have HO161 := mkA (show Kd.V Kd.string 9 _ w.heap.size _ (.slice A15 y157.length c15) y157 from Kd.V_mk (by rw [hy15, hc15]; exact Nat.sub_le_sub_right hroom15 _) hr15)
         have HC161 := mkA (show y157.length ≤ c15 from by rw [hy15, hc15]; exact Nat.sub_le_sub_right hroom15 _)
         clear hr15 hC15 hroom15 hi015 hsz15 hc15
         have KY15 := mkA hy15
         have KA15 := mkA hA15
         clear hy15 hA15
         replace q15 := eq_true q15
         go_wp2
         go_meet
         case rel => exact ⟨_, (y157), H', ⟨by have := HJ8.out; first | omega | exact Nat.le_refl _⟩, ⟨by (with_reducible repeat (first | apply Kd.V_alloc | apply Kd.V_drewN | apply Kd.V_drew)); exact HO161.out⟩, ⟨below_y HB.out⟩⟩
       ·rw [if_neg c14] at H
        exact absurd H (by simp)
   ·rw [if_neg c7] at H
    exact absurd H (by simp)
  ·rw [if_neg c6] at H
   have c6b0 : ((t150.length : Int) == 6) = false := beq_eq_false_iff_ne.mpr c6
   have c6b1 : ((t150.length : Int) != 6) = true := bne_iff_ne.mpr c6
   (first | rw [c6b0] | (simp only [i64_w, i32_w]; rw [c6b0]) | skip)
   as_aux_lemma =>
    have H' := mkA H
    clear H
    go_wp2
    go_meet
    case rel => exact ⟨_, (t150), H', ⟨by first | omega | exact Nat.le_refl _⟩, ⟨by (with_reducible repeat (first | apply Kd.V_alloc | apply Kd.V_drewN | apply Kd.V_drew)); exact HO152.out⟩, ⟨below_y HB.out⟩⟩
 clear HC3
 try clear c1
 try clear p1
 try clear q1
 try clear hx1
 try clear qi1
 try clear p2
 try clear c6
 try clear c6b0
 try clear c6b1
 try clear c7
 try clear c7b0
 try clear c7b1
 try clear c10
 try clear c12
 try clear c13
 try clear c14
 try clear c14b0
 try clear c14b1
 try clear c15
 try clear p15
 try clear q15
 try clear hx15
 try clear qi15
 try clear hx153_0
 try clear p1
 try clear p153
 try clear p2
 try clear q1
 try clear q15
 try clear q153
 obtain ⟨kq, x4_2, HA, HJ2, HO_4, HB⟩ := hcut
 rcases kq with _ | kj2
 ·exact absurd HA.out (by simp [stamp_Get.j1])
 have H := HA.out
 clear HA
 simp only [stamp_Get.j1] at H
 by_cases c16 : (x4_2.length : Int) = 5
 rotate_left
 ·rw [if_neg c16] at H
  have c16b0 : ((x4_2.length : Int) == 5) = false := beq_eq_false_iff_ne.mpr c16
  have c16b1 : ((x4_2.length : Int) != 5) = true := bne_iff_ne.mpr c16
  simp only [Option.some.injEq, Prod.mk.injEq] at H
  obtain ⟨rfl, rfl⟩ := H
  as_aux_lemma =>
   obtain ⟨Ao56, co56, eo56⟩ := Kd.V_slice HO_4.out
   subst eo56
   go_wp2
   go_ret2
   exact ⟨by first | rfl | (simp [errW_none, errW_some] <;> rfl) | (simp [*, errW_none, errW_some] <;> rfl), below_y HB.out⟩
 rw [if_pos c16] at H
 have c16b0 : ((x4_2.length : Int) == 5) = true := beq_iff_eq.mpr c16
 have c16b1 : ((x4_2.length : Int) != 5) = false := bne_eq_false_iff_eq.mpr c16
 clear c16
 replace H := Option.bind_eq_some_iff.mp H
 obtain ⟨⟨t162, t163, t164, t165⟩, A170, H⟩ := H
 replace H : (if 3 < (x4_2.length : Int) then ((stamp_parseClock.f kj2 (rdOf ByteArray.empty x4_2 3)).bind fun bt168 => (if 4 < (x4_2.length : Int) then ((stamp_zone.f kj2 (rdOf ByteArray.empty x4_2 4)).bind fun bt174 => (if t165 = true then (if bt168.2.2.2 = true then (stamp_Get.j2 kj2 bt174.1 bt174.2 (bt174.2 == 2) t162 t163 t164 bt168.1 bt168.2.1 bt168.2.2.1) else (stamp_Get.j2 kj2 bt174.1 bt174.2 true t162 t163 t164 bt168.1 bt168.2.1 bt168.2.2.1)) else (stamp_Get.j2 kj2 bt174.1 bt174.2 true t162 t163 t164 bt168.1 bt168.2.1 bt168.2.2.1))) else (none))) else (none)) = some (r1, r2) := H
 have A17 := mkA A170
 clear A170
 by_cases c18 : 3 < (x4_2.length : Int)
 rotate_left
 ·rw [if_neg c18] at H
  exact absurd H (by simp)
 rw [if_pos c18] at H
 have c18b0 : decide (3 < (x4_2.length : Int)) = true := decide_eq_true c18
 have c18b1 : decide (3 < x4_2.length) = true := decide_eq_true (by omega)
 clear c18
 replace H := Option.bind_eq_some_iff.mp H
 obtain ⟨⟨t168, t169, t170, t171⟩, A190, H⟩ := H
 replace H : (if 4 < (x4_2.length : Int) then ((stamp_zone.f kj2 (rdOf ByteArray.empty x4_2 4)).bind fun bt174 => (if t165 = true then (if t171 = true then (stamp_Get.j2 kj2 bt174.1 bt174.2 (bt174.2 == 2) t162 t163 t164 t168 t169 t170) else (stamp_Get.j2 kj2 bt174.1 bt174.2 true t162 t163 t164 t168 t169 t170)) else (stamp_Get.j2 kj2 bt174.1 bt174.2 true t162 t163 t164 t168 t169 t170))) else (none)) = some (r1, r2) := H
 have A19 := mkA A190
 clear A190
 by_cases c20 : 4 < (x4_2.length : Int)
 rotate_left
 ·rw [if_neg c20] at H
  exact absurd H (by simp)
 rw [if_pos c20] at H
 have c20b0 : decide (4 < (x4_2.length : Int)) = true := decide_eq_true c20
 have c20b1 : decide (4 < x4_2.length) = true := decide_eq_true (by omega)
 clear c20
 replace H := Option.bind_eq_some_iff.mp H
 obtain ⟨⟨t174, t175⟩, A210, H⟩ := H
 replace H : (if t165 = true then (if t171 = true then (stamp_Get.j2 kj2 t174 t175 (t175 == 2) t162 t163 t164 t168 t169 t170) else (stamp_Get.j2 kj2 t174 t175 true t162 t163 t164 t168 t169 t170)) else (stamp_Get.j2 kj2 t174 t175 true t162 t163 t164 t168 t169 t170)) = some (r1, r2) := H
 have A21 := mkA A210
 clear A210
 have HC22 := mkA H
 clear H
 obtain ⟨Ao23, co23, eo23⟩ := Kd.V_slice HO_4.out
 subst eo23
 go_upto_region 12 with (first | ((with_reducible refine gate_callee (f := 15) rfl ?_); refine goesL_ (some 40) rfl rfl Tryd.func15 (by kernel_rfl) rfl #[.slice Ao23 x4_2.length co23] rfl ca ?_; (with_reducible refine (stamp_parseDate.calls (hG := ?sideG) kj2 _ _ x4_2 t162 t163 t164 t165 _ ?side1 ?side2 A17.out).mono ?_); (case sideG => exact gG hG (below_y HB.out)); (case side1 => exact Kd.C_y (Kd.V_reads' HO_4.out).2.2); (case side2 => exact (Kd.V_reads' HO_4.out).2.1); rintro e w24 ⟨rfl, hb⟩; refine ⟨_, rfl, ?_⟩; have n0_ := mkA (Kd.V_below (Kd.V_y HO_4.out) hb); have n1_ := mkA (below_step (below_y HB.out) hb); clear HO_4; clear HB; have HO_4 := n0_; have HB := n1_; clear n0_ n1_; (try clear hb); (try clear hb2); (try clear hk); (try clear hi)) | ((with_reducible refine gate_dst (N := 7) rfl ?_); refine box_event ?hg (N := 7) ?hd (cs := #[.int .i64 0, .int .i64 0, .int .i64 0]) (t := 41) ?hr ?_; (case hd => rfl); (case hg => rfl); (case hr => first | (go_simp; done) | (go_simp; rfl)); intro gb166 hg w25 hbox hb; have n0_ := mkA (Kd.V_below (Kd.V_elderB (Kd.V_y HO_4.out) gb166 (Nat.le_of_eq hg.symm)) hb); have n1_ := mkA (below_step (below_y HB.out) hb); have n2_ := mkA (hbox); have n3_ := mkA ((gz hg HB.out : w.heap.size ≤ gb166)); have n4_ := mkA ((gz hg HB.out : w.heap.size ≤ gb166)); clear HO_4; clear HB; have HO_4 := n0_; have HB := n1_; have BK166 := n2_; have GW166 := n3_; have GE166 := n4_; clear n0_ n1_ n2_ n3_ n4_; clear hb hbox hg; have hcz26_0 := bc BK166.out 0 (.int .i64 0) rfl; have hcz26_1 := bc BK166.out 1 (.int .i64 0) rfl; have hcz26_2 := bc BK166.out 2 (.int .i64 0) rfl; have hfz26_0 := blk_frozen BK166.out 0; have hfz26_1 := blk_frozen BK166.out 1; have hfz26_2 := blk_frozen BK166.out 2; have p167 : 0 ≤ (3 : Int) := (by omega); have q167 : 3 < (x4_2.length : Int) := odt; obtain ⟨ad167, e167, hx167_0⟩ := Kd.at_string (Kd.V_reads' HO_4.out).2.2 3 p167 q167; cases e167; (try simp only [show (3 : Int).toNat = 3 from rfl, Nat.reduceMul, Nat.reduceEqDiff, Go.Addr.add, ↓reduceIte] at hx167_0); have qi167 : (3 < x4_2.length) = True := eq_true (by omega); (try rw [show ((3 : Int)).toNat = 3 from rfl] at hx167_0); have hVf := (Kd.V_far (p := ⟨gb166, 2, none⟩) (Kd.V_far (p := ⟨gb166, 1, none⟩) (Kd.V_far (p := ⟨gb166, 0, none⟩) (Kd.V_mono HO_4.out (fun k_ hk => (⟨hk, hk.2⟩ : _ ∧ k_ ≠ gb166))) (fun _ hk => hk.2) (.int .i64 t162)) (fun _ hk => hk.2) (.int .i64 t163)) (fun _ hk => hk.2) (.int .i64 t164)); obtain ⟨adz, ez, hz⟩ := Kd.at_string (Kd.V_reads' hVf).2.2 3 p167 q167; obtain rfl : ad167 = adz := (by injection ez); (try simp only [show (3 : Int).toNat = 3 from rfl, Nat.reduceMul, Nat.reduceEqDiff, Go.Addr.add, ↓reduceIte] at hz); clear hVf ez hx167_0; have hx167_0 := hz; clear hz; replace p167 := eq_true p167; replace q167 := eq_true q167) | ((with_reducible refine gate_callee (f := 16) rfl ?_); refine goesL_ (some 47) rfl rfl Tryd.func16 (by kernel_rfl) rfl #[.string (rdOf ByteArray.empty x4_2 3)] rfl ca ?_; (with_reducible refine (stamp_parseClock.calls kj2 (rdOf ByteArray.empty x4_2 3) t168 t169 t170 t171 _ A19.out).mono ?_); rintro e w27 ⟨rfl, hb⟩; refine ⟨_, rfl, ?_⟩; have n0_ := mkA (Kd.V_below (by (with_reducible repeat (first | apply Kd.V_alloc | apply Kd.V_drewN | apply Kd.V_drew)); exact (Kd.V_mono (Kd.V_far (p := ⟨gb166, 2, none⟩) (Kd.V_far (p := ⟨gb166, 1, none⟩) (Kd.V_far (p := ⟨gb166, 0, none⟩) (Kd.V_mono HO_4.out (fun k_ hk => (⟨hk, hk.2⟩ : _ ∧ k_ ≠ gb166))) (fun _ hk => hk.2) (.int .i64 t162)) (fun _ hk => hk.2) (.int .i64 t163)) (fun _ hk => hk.2) (.int .i64 t164)) (fun _ h_ => h_.1))) hb); have n1_ := mkA (blk_below (g := gb166) (o := .cells #[.int .i64 t162, .int .i64 t163, .int .i64 t164] 41 (0, 0)) (by (with_reducible repeat (first | refine blk_drewN ?_ _ | refine blk_drew ?_ | refine blk_alloc ?_ _)); refine blk_put (cs := #[.int .i64 t162, .int .i64 t163, .int .i64 0]) ?_ 2 _ rfl; (with_reducible repeat (first | refine blk_drewN ?_ _ | refine blk_drew ?_ | refine blk_alloc ?_ _)); refine blk_put (cs := #[.int .i64 t162, .int .i64 0, .int .i64 0]) ?_ 1 _ rfl; (with_reducible repeat (first | refine blk_drewN ?_ _ | refine blk_drew ?_ | refine blk_alloc ?_ _)); refine blk_put (cs := #[.int .i64 0, .int .i64 0, .int .i64 0]) ?_ 0 _ rfl; (with_reducible repeat (first | refine blk_drewN ?_ _ | refine blk_drew ?_ | refine blk_alloc ?_ _)); exact BK166.out) hb); have n2_ := mkA (below_step (below_y HB.out) hb); clear HO_4; clear BK166; clear HB; have HO_4 := n0_; have BK166 := n1_; have HB := n2_; clear n0_ n1_ n2_; (try clear hb); (try clear hb2); (try clear hk); (try clear hi)) | ((with_reducible refine gate_dst (N := 9) rfl ?_); refine box_event ?hg (N := 9) ?hd (cs := #[.int .i64 0, .int .i64 0, .int .i64 0]) (t := 45) ?hr ?_; (case hd => rfl); (case hg => rfl); (case hr => first | (go_simp; done) | (go_simp; rfl)); intro gb172 hg w28 hbox hb; have n0_ := mkA (Kd.V_below (Kd.V_elderB (Kd.V_y HO_4.out) gb172 (Nat.le_of_eq hg.symm)) hb); have n1_ := mkA (blk_below (blk_y BK166.out) hb); have n2_ := mkA (below_step (below_y HB.out) hb); have n3_ := mkA (hbox); have n4_ := mkA ((gz hg HB.out : w.heap.size ≤ gb172)); have n5_ := mkA ((gz hg HB.out : w.heap.size ≤ gb172)); have n6_ := mkA ((gn hg BK166.out : gb166 ≠ gb172)); have n7_ := mkA ((gm hg BK166.out : gb172 ≠ gb166)); clear HO_4; clear BK166; clear HB; have HO_4 := n0_; have BK166 := n1_; have HB := n2_; have BK172 := n3_; have GW172 := n4_; have GE172 := n5_; have NB166_172 := n6_; have NB172_166 := n7_; clear n0_ n1_ n2_ n3_ n4_ n5_ n6_ n7_; clear hb hbox hg; have hnb29 := NB172_166.out; have hnc29 := NB166_172.out; have hcz30_0 := bc BK172.out 0 (.int .i64 0) rfl; have hcz30_1 := bc BK172.out 1 (.int .i64 0) rfl; have hcz30_2 := bc BK172.out 2 (.int .i64 0) rfl; have hfz30_0 := blk_frozen BK172.out 0; have hfz30_1 := blk_frozen BK172.out 1; have hfz30_2 := blk_frozen BK172.out 2; have p173 : 0 ≤ (4 : Int) := (by omega); have q173 : 4 < (x4_2.length : Int) := odt; obtain ⟨ad173, e173, hx173_0⟩ := Kd.at_string (Kd.V_reads' HO_4.out).2.2 4 p173 q173; obtain rfl : ad167 = ad173 := (by injection e173); (try simp only [show (4 : Int).toNat = 4 from rfl, Nat.reduceMul, Nat.reduceEqDiff, Go.Addr.add, ↓reduceIte] at hx173_0); have qi173 : (4 < x4_2.length) = True := eq_true (by omega); (try rw [show ((4 : Int)).toNat = 4 from rfl] at hx173_0); have hVf := (Kd.V_far (p := ⟨gb172, 2, none⟩) (Kd.V_far (p := ⟨gb172, 1, none⟩) (Kd.V_far (p := ⟨gb172, 0, none⟩) (Kd.V_mono HO_4.out (fun k_ hk => (⟨hk, hk.2⟩ : _ ∧ k_ ≠ gb172))) (fun _ hk => hk.2) (.int .i64 t168)) (fun _ hk => hk.2) (.int .i64 t169)) (fun _ hk => hk.2) (.int .i64 t170)); obtain ⟨adz, ez, hz⟩ := Kd.at_string (Kd.V_reads' hVf).2.2 4 p173 q173; obtain rfl : ad167 = adz := (by injection ez); (try simp only [show (4 : Int).toNat = 4 from rfl, Nat.reduceMul, Nat.reduceEqDiff, Go.Addr.add, ↓reduceIte] at hz); clear hVf ez hx173_0; have hx173_0 := hz; clear hz; replace p173 := eq_true p173; replace q173 := eq_true q173) | ((with_reducible refine gate_callee (f := 17) rfl ?_); refine goesL_ (some 54) rfl rfl Tryd.func17 (by kernel_rfl) rfl #[.string (rdOf ByteArray.empty x4_2 4)] rfl ca ?_; (with_reducible refine (stamp_zone.calls kj2 (rdOf ByteArray.empty x4_2 4) t174 t175 _ A21.out).mono ?_); rintro e w31 ⟨rfl, hb⟩; refine ⟨_, rfl, ?_⟩; have n0_ := mkA (Kd.V_below (by (with_reducible repeat (first | apply Kd.V_alloc | apply Kd.V_drewN | apply Kd.V_drew)); exact (Kd.V_mono (Kd.V_far (p := ⟨gb172, 2, none⟩) (Kd.V_far (p := ⟨gb172, 1, none⟩) (Kd.V_far (p := ⟨gb172, 0, none⟩) (Kd.V_mono HO_4.out (fun k_ hk => (⟨hk, hk.2⟩ : _ ∧ k_ ≠ gb172))) (fun _ hk => hk.2) (.int .i64 t168)) (fun _ hk => hk.2) (.int .i64 t169)) (fun _ hk => hk.2) (.int .i64 t170)) (fun _ h_ => h_.1))) hb); have n1_ := mkA (blk_below (g := gb166) (o := .cells #[.int .i64 t162, .int .i64 t163, .int .i64 t164] 41 (0, 0)) (by (iterate 3 ((with_reducible repeat (first | refine blk_drewN ?_ _ | refine blk_drew ?_ | refine blk_alloc ?_ _)); refine blk_far ?_ NB166_172.out _)); (with_reducible repeat (first | refine blk_drewN ?_ _ | refine blk_drew ?_ | refine blk_alloc ?_ _)); exact BK166.out) hb); have n2_ := mkA (blk_below (g := gb172) (o := .cells #[.int .i64 t168, .int .i64 t169, .int .i64 t170] 45 (0, 0)) (by (with_reducible repeat (first | refine blk_drewN ?_ _ | refine blk_drew ?_ | refine blk_alloc ?_ _)); refine blk_put (cs := #[.int .i64 t168, .int .i64 t169, .int .i64 0]) ?_ 2 _ rfl; (with_reducible repeat (first | refine blk_drewN ?_ _ | refine blk_drew ?_ | refine blk_alloc ?_ _)); refine blk_put (cs := #[.int .i64 t168, .int .i64 0, .int .i64 0]) ?_ 1 _ rfl; (with_reducible repeat (first | refine blk_drewN ?_ _ | refine blk_drew ?_ | refine blk_alloc ?_ _)); refine blk_put (cs := #[.int .i64 0, .int .i64 0, .int .i64 0]) ?_ 0 _ rfl; (with_reducible repeat (first | refine blk_drewN ?_ _ | refine blk_drew ?_ | refine blk_alloc ?_ _)); exact BK172.out) hb); have n3_ := mkA (below_step (below_y HB.out) hb); clear HO_4; clear BK166; clear BK172; clear HB; have HO_4 := n0_; have BK166 := n1_; have BK172 := n2_; have HB := n3_; clear n0_ n1_ n2_ n3_; (try clear hb); (try clear hb2); (try clear hk); (try clear hi)))
 (try simp only [Act.put, sA, s0, sS])
 go_cut [66] (fun v66 wc => ∃ (kq : Nat) (x66_21 : Bool), v66 = .bool x66_21 ∧ Aside0 (stamp_Get.j2 kq t174 t175 x66_21 t162 t163 t164 t168 t169 t170 = some (r1, r2)) ∧ Aside0 (kq ≤ kj2) ∧ Aside0 (wc.heap[gb166]? = some (.cells #[.int .i64 t162, .int .i64 t163, .int .i64 t164] 41 (0, 0))) ∧ Aside0 (wc.heap[gb172]? = some (.cells #[.int .i64 t168, .int .i64 t169, .int .i64 t170] 45 (0, 0))) ∧ Aside0 (Below w.heap.size w wc))
 case first =>
  have H := HC22.out
  clear HC22
  by_cases c32 : t165 = true
  ·subst c32
   have H1 : (if t171 = true then (stamp_Get.j2 kj2 t174 t175 (t175 == 2) t162 t163 t164 t168 t169 t170) else (stamp_Get.j2 kj2 t174 t175 true t162 t163 t164 t168 t169 t170)) = some (r1, r2) := by rw [if_pos rfl] at H; exact H
   clear H
   have H := H1
   clear H1
   by_cases c33 : t171 = true
   ·subst c33
    have H1 : (stamp_Get.j2 kj2 t174 t175 (t175 == 2) t162 t163 t164 t168 t169 t170) = some (r1, r2) := by rw [if_pos rfl] at H; exact H
    clear H
    have H := H1
    clear H1
    as_aux_lemma =>
     have H' := mkA H
     clear H
     go_wp2
     go_meet
     case rel => exact ⟨_, ((t175 == 2)), (by first | rfl | (simp; done) | (simp [*]; done)), H', ⟨by have := HJ2.out; first | omega | exact Nat.le_refl _⟩, ⟨by (with_reducible repeat (first | refine blk_drewN ?_ _ | refine blk_drew ?_ | refine blk_alloc ?_ _)); exact BK166.out⟩, ⟨by (with_reducible repeat (first | refine blk_drewN ?_ _ | refine blk_drew ?_ | refine blk_alloc ?_ _)); exact BK172.out⟩, ⟨by repeat (first | (with_reducible first | exact HB.out | apply below_alloc | apply pw_below_drewN | apply below_drew1 | refine below_set ?_ GE166.out | refine below_set ?_ GE172.out) | exact HB.out)⟩⟩
   ·replace c33 := Bool.eq_false_iff.mpr c33
    subst c33
    have H1 : (stamp_Get.j2 kj2 t174 t175 true t162 t163 t164 t168 t169 t170) = some (r1, r2) := by rw [if_neg (show ¬ (false = true) by decide)] at H; exact H
    clear H
    have H := H1
    clear H1
    as_aux_lemma =>
     have H' := mkA H
     clear H
     go_wp2
     go_meet
     case rel => exact ⟨_, (true), (by first | rfl | (simp; done) | (simp [*]; done)), H', ⟨by have := HJ2.out; first | omega | exact Nat.le_refl _⟩, ⟨by (with_reducible repeat (first | refine blk_drewN ?_ _ | refine blk_drew ?_ | refine blk_alloc ?_ _)); exact BK166.out⟩, ⟨by (with_reducible repeat (first | refine blk_drewN ?_ _ | refine blk_drew ?_ | refine blk_alloc ?_ _)); exact BK172.out⟩, ⟨by repeat (first | (with_reducible first | exact HB.out | apply below_alloc | apply pw_below_drewN | apply below_drew1 | refine below_set ?_ GE166.out | refine below_set ?_ GE172.out) | exact HB.out)⟩⟩
  ·replace c32 := Bool.eq_false_iff.mpr c32
   subst c32
   have H1 : (stamp_Get.j2 kj2 t174 t175 true t162 t163 t164 t168 t169 t170) = some (r1, r2) := by rw [if_neg (show ¬ (false = true) by decide)] at H; exact H
   clear H
   have H := H1
   clear H1
   as_aux_lemma =>
    have H' := mkA H
    clear H
    go_wp2
    go_meet
    case rel => exact ⟨_, (true), (by first | rfl | (simp; done) | (simp [*]; done)), H', ⟨by have := HJ2.out; first | omega | exact Nat.le_refl _⟩, ⟨by (with_reducible repeat (first | refine blk_drewN ?_ _ | refine blk_drew ?_ | refine blk_alloc ?_ _)); exact BK166.out⟩, ⟨by (with_reducible repeat (first | refine blk_drewN ?_ _ | refine blk_drew ?_ | refine blk_alloc ?_ _)); exact BK172.out⟩, ⟨by repeat (first | (with_reducible first | exact HB.out | apply below_alloc | apply pw_below_drewN | apply below_drew1 | refine below_set ?_ GE166.out | refine below_set ?_ GE172.out) | exact HB.out)⟩⟩
 clear HC22
 try clear c1
 try clear p1
 try clear q1
 try clear hx1
 try clear qi1
 try clear c2
 try clear p2
 try clear c3
 try clear c6
 try clear c6b0
 try clear c6b1
 try clear c7
 try clear c7b0
 try clear c7b1
 try clear c10
 try clear c12
 try clear c13
 try clear c14
 try clear c14b0
 try clear c14b1
 try clear c15
 try clear p15
 try clear q15
 try clear hx15
 try clear qi15
 try clear c16
 try clear c16b0
 try clear c16b1
 try clear p16
 try clear q16
 try clear hx16
 try clear qi16
 try clear c17
 try clear p17
 try clear q17
 try clear hx17
 try clear qi17
 try clear c18
 try clear c18b0
 try clear c18b1
 try clear c20
 try clear c20b0
 try clear c20b1
 try clear c29
 try clear c32
 try clear c33
 try clear hcz26_0
 try clear hcz26_1
 try clear hcz26_2
 try clear hcz30_0
 try clear hcz30_1
 try clear hcz30_2
 try clear hfz26_0
 try clear hfz26_1
 try clear hfz26_2
 try clear hfz30_0
 try clear hfz30_1
 try clear hfz30_2
 try clear hx153_0
 try clear hx167_0
 try clear hx173_0
 try clear p1
 try clear p15
 try clear p153
 try clear p167
 try clear p173
 try clear p2
 try clear q1
 try clear q15
 try clear q153
 try clear q167
 try clear q173
 obtain ⟨kq, x66_21, rfl, HA, HJ21, BK166, BK172, HB⟩ := hcut
 rcases kq with _ | kj21
 ·exact absurd HA.out (by simp [stamp_Get.j2])
 have H := HA.out
 clear HA
 simp only [stamp_Get.j2] at H
 by_cases c34 : x66_21 = true
 ·subst c34
  have H1 : (some (0, 2)) = some (r1, r2) := by rw [if_pos rfl] at H; exact H
  clear H
  have H := H1
  clear H1
  as_aux_lemma =>
   simp only [Option.some.injEq, Prod.mk.injEq] at H
   obtain ⟨rfl, rfl⟩ := H
   go_wp2
   go_ret2
   exact ⟨by first | rfl | (simp [errW_none, errW_some] <;> rfl) | (simp [*, errW_none, errW_some] <;> rfl), by repeat (first | (with_reducible first | exact HB.out | apply below_alloc | apply pw_below_drewN | apply below_drew1 | refine below_set ?_ GE166.out | refine below_set ?_ GE172.out) | exact HB.out)⟩
 replace c34 := Bool.eq_false_iff.mpr c34
 subst c34
 have H1 : (if t175 = 0 then (if t162 < 1 then (stamp_Get.j3 kj21 t174 true t162 t163 t164 t168 t169 t170) else ((stamp_Days.f t164 t163).bind fun t176 => (if t162 > t176 then (stamp_Get.j3 kj21 t174 true t162 t163 t164 t168 t169 t170) else (if t168 > 23 then (stamp_Get.j3 kj21 t174 true t162 t163 t164 t168 t169 t170) else (if t169 > 59 then (stamp_Get.j3 kj21 t174 true t162 t163 t164 t168 t169 t170) else (stamp_Get.j3 kj21 t174 (decide (t170 > 59)) t162 t163 t164 t168 t169 t170)))))) else (stamp_Get.j3 kj21 t174 true t162 t163 t164 t168 t169 t170)) = some (r1, r2) := by rw [if_neg (show ¬ (false = true) by decide)] at H; exact H
 clear H
 have H := H1
 clear H1
 have HC35 := mkA H
 clear H
 go_upto_region 14 with (fail)
 go_cut [98] (fun v98 wc => ∃ (kq : Nat) (x98_34 : Bool), v98 = .bool x98_34 ∧ Aside0 (stamp_Get.j3 kq t174 x98_34 t162 t163 t164 t168 t169 t170 = some (r1, r2)) ∧ Aside0 (kq ≤ kj21) ∧ Aside0 (wc.heap[gb166]? = some (.cells #[.int .i64 t162, .int .i64 t163, .int .i64 t164] 41 (0, 0))) ∧ Aside0 (wc.heap[gb172]? = some (.cells #[.int .i64 t168, .int .i64 t169, .int .i64 t170] 45 (0, 0))) ∧ Aside0 (Below w.heap.size w wc))
 case rest =>
  clear HC35
  try clear c1
  try clear p2
  try clear c3
  try clear c4
  try clear c10
  try clear c36
  try clear c36b0
  try clear c36b1
  try clear c46
  try clear c46b0
  obtain ⟨kq, x98_34, rfl, HA, HJ34, BK166, BK172, HB⟩ := hcut
  cases kq with
  | zero => exact absurd HA.out (by simp [stamp_Get.j3])
  | succ kj34 =>
   have H := HA.out
   clear HA
   simp only [stamp_Get.j3] at H
   by_cases c52 : x98_34 = true
   ·subst c52
    have H1 : (some (0, 3)) = some (r1, r2) := by rw [if_pos rfl] at H; exact H
    clear H
    have H := H1
    clear H1
    as_aux_lemma =>
     simp only [Option.some.injEq, Prod.mk.injEq] at H
     obtain ⟨rfl, rfl⟩ := H
     go_wp2
     go_ret2
     exact ⟨by first | rfl | (simp [errW_none, errW_some] <;> rfl) | (simp [*, errW_none, errW_some] <;> rfl), by repeat (first | (with_reducible first | exact HB.out | apply below_alloc | apply pw_below_drewN | apply below_drew1 | refine below_set ?_ GE166.out | refine below_set ?_ GE172.out) | exact HB.out)⟩
   ·replace c52 := Bool.eq_false_iff.mpr c52
    subst c52
    have H1 : ((stamp_before.f kj34 t164 t163).bind fun t177 => (some (wrap64 ((wrap64 ((wrap64 (86400 * (wrap64 ((wrap64 (t177 + t162)) - 1)))) + (wrap64 ((wrap64 ((wrap64 (3600 * t168)) + (wrap64 (60 * t169)))) + t170)))) - t174), 0))) = some (r1, r2) := by rw [if_neg (show ¬ (false = true) by decide)] at H; exact H
    clear H
    have H := H1
    clear H1
    replace H := Option.bind_eq_some_iff.mp H
    obtain ⟨t177, A530, H⟩ := H
    replace H : (some (wrap64 ((wrap64 ((wrap64 (86400 * (wrap64 ((wrap64 (t177 + t162)) - 1)))) + (wrap64 ((wrap64 ((wrap64 (3600 * t168)) + (wrap64 (60 * t169)))) + t170)))) - t174), 0)) = some (r1, r2) := H
    have A53 := mkA A530
    clear A530
    as_aux_lemma =>
     simp only [Option.some.injEq, Prod.mk.injEq] at H
     obtain ⟨rfl, rfl⟩ := H
     try go_wp2
     have n0_ := mkA (blk_drew BK166.out)
     have n1_ := mkA (blk_drew BK172.out)
     try (have HBd_ := mkA (below_drew1 (pw_below_drewN HB.out nd)))
     have n2_ := mkA (below_drew1 HB.out)
     clear BK166 BK172 HB
     have BK166 := n0_
     have BK172 := n1_
     have HB := n2_
     clear n0_ n1_ n2_
     refine start_ (n := 22) (S := fun w' => w'.cell? ⟨gb166, 0, none⟩ = some (.int .i64 t162) ∧ w'.cell? ⟨gb166, 1, none⟩ = some (.int .i64 t163) ∧ w'.cell? ⟨gb166, 2, none⟩ = some (.int .i64 t164) ∧ w'.cell? ⟨gb172, 0, none⟩ = some (.int .i64 t168) ∧ w'.cell? ⟨gb172, 1, none⟩ = some (.int .i64 t169) ∧ w'.cell? ⟨gb172, 2, none⟩ = some (.int .i64 t170)) (ds := []) #[false, false, false, false, false, false, false, false, false, false, false, false, false, false, false, false, false, false, false, false, false, false] (by kernel_rfl) rfl rfl ⟨(blk_cell BK166.out 0).trans rfl, (blk_cell BK166.out 1).trans rfl, (blk_cell BK166.out 2).trans rfl, (blk_cell BK172.out 0).trans rfl, (blk_cell BK172.out 1).trans rfl, (blk_cell BK172.out 2).trans rfl⟩ (fun hHeld => ?_); refine with_tabW stamp_Get.tab16 stamp_Get.bits16 (fun HT_ HW_ => ?_)
     generalize wc.drew = w54 at BK166 BK172 HB hHeld ⊢
     refine pu 0 99 HT_ ?_
     refine pu 2 101 HT_ ?_
     refine pu 5 104 HT_ ?_
     refine pu 10 109 HT_ ?_
     refine pu 13 112 HT_ ?_
     refine pu 17 116 HT_ ?_
     refine tk 1 100 HT_ HW_ hHeld ?_
     refine tk 3 102 HT_ HW_ hHeld ?_
     refine tk 6 105 HT_ HW_ hHeld ?_
     refine tk 11 110 HT_ HW_ hHeld ?_
     refine pu 12 111 HT_ ?_
     refine tk 14 113 HT_ HW_ hHeld ?_
     refine pu 15 114 HT_ ?_
     refine pu 16 115 HT_ ?_
     refine tk 18 117 HT_ HW_ hHeld ?_
     refine pu 19 118 HT_ ?_
     refine one_ (i := 4) (N := some 103) #[true, true, true, true, true, true, true, false, false, false, true, true, true, true, true, true, true, true, true, true, false, false] rfl rfl (one_of HT_.out (by kernel_rfl)) (by decide) (fun K hK => ?_)
     refine goes_ Tryd.func18 (by kernel_rfl) rfl #[.int .i64 t164, .int .i64 t163] (by rfl) rfl rfl ca ?_
     with_reducible refine (stamp_before.calls kj34 t164 t163 t177 _ A53.out).mono ?_
     rintro e w55 ⟨rfl, hb⟩
     have hbk_w55 := mkA hb
     refine ⟨_, rfl, ?_⟩
     have n0_ := mkA (blk_below (blk_y BK166.out) hb)
     have n1_ := mkA (blk_below (blk_y BK172.out) hb)
     have n2_ := mkA (below_step (below_y HB.out) hb)
     clear BK166 BK172 HB
     have BK166 := n0_
     have BK172 := n1_
     have HB := n2_
     clear n0_ n1_ n2_
     (try clear hb)
     (try clear hb2)
     (try clear hk)
     (try clear hi)
     refine hK.out _ _ ⟨(blk_cell BK166.out 0).trans rfl, (blk_cell BK166.out 1).trans rfl, (blk_cell BK166.out 2).trans rfl, (blk_cell BK172.out 0).trans rfl, (blk_cell BK172.out 1).trans rfl, (blk_cell BK172.out 2).trans rfl⟩ (fun hHeld => ?_)
     clear hK K
     refine norm_ (a' := ?_) ?_ ?_
     rotate_left
     ·show Act.put _ (some 103) _ = _
      simp only [Act.put, sA, s0, sS, i64_w, i32_w]
      rfl
     refine pu 7 106 HT_ ?_
     refine pu 8 107 HT_ ?_
     refine pu 9 108 HT_ ?_
     refine pu 20 119 HT_ ?_
     refine pu 21 13 HT_ ?_
     refine done_ (done_of HT_.out (by kernel_rfl)) ?_
     try go_wp2
     go_ret2
     exact ⟨by first | rfl | (simp [errW_none, errW_some] <;> rfl) | (simp [*, errW_none, errW_some] <;> rfl), by repeat (first | (with_reducible first | exact HB.out | apply below_alloc | apply pw_below_drewN | apply below_drew1 | refine below_set ?_ GE166.out | refine below_set ?_ GE172.out) | exact HB.out)⟩
 have H := HC35.out
 clear HC35
 by_cases c36 : t175 = 0
 rotate_left
 ·rw [if_neg c36] at H
  have c36b0 : (t175 == 0) = false := beq_eq_false_iff_ne.mpr c36
  have c36b1 : (t175 != 0) = true := bne_iff_ne.mpr c36
  (first | rw [c36b0] | (simp only [i64_w, i32_w]; rw [c36b0]) | skip)
  as_aux_lemma =>
   have H' := mkA H
   clear H
   try go_wp2
   have n0_ := mkA (blk_drew BK166.out)
   have n1_ := mkA (blk_drew BK172.out)
   try (have HBd_ := mkA (below_drew1 (pw_below_drewN HB.out nd)))
   have n2_ := mkA (below_drew1 HB.out)
   clear BK166 BK172 HB
   have BK166 := n0_
   have BK172 := n1_
   have HB := n2_
   clear n0_ n1_ n2_
   refine start_ (n := 32) (S := fun w' => True) (ds := []) #[false, false, false, false, false, false, false, false, false, false, false, false, false, false, false, false, false, false, false, false, false, false, false, false, false, false, false, false, false, false, false, false] (by kernel_rfl) rfl rfl trivial (fun hHeld => ?_); refine with_tabW stamp_Get.tab14 stamp_Get.bits14 (fun HT_ HW_ => ?_)
   generalize wc.drew = w51 at BK166 BK172 HB hHeld ⊢
   refine pu 0 67 HT_ ?_
   refine pu 1 68 HT_ ?_
   refine pu 2 69 HT_ ?_
   refine pn 3 70 HT_ ?_
   refine pn 4 71 HT_ ?_
   refine pn 5 72 HT_ ?_
   refine pu 6 73 HT_ ?_
   refine pu 7 74 HT_ ?_
   refine pn 8 75 HT_ ?_
   refine pn 9 76 HT_ ?_
   refine pn 10 77 HT_ ?_
   refine pn 11 78 HT_ ?_
   refine pn 12 79 HT_ ?_
   refine pn 13 80 HT_ ?_
   refine pn 14 81 HT_ ?_
   refine pn 15 82 HT_ ?_
   refine pu 16 83 HT_ ?_
   refine pu 17 84 HT_ ?_
   refine pn 18 85 HT_ ?_
   refine pn 19 86 HT_ ?_
   refine pn 20 87 HT_ ?_
   refine pu 21 88 HT_ ?_
   refine pu 22 89 HT_ ?_
   refine pn 23 90 HT_ ?_
   refine pn 24 91 HT_ ?_
   refine pn 25 92 HT_ ?_
   refine pu 26 93 HT_ ?_
   refine pu 27 94 HT_ ?_
   refine pn 28 95 HT_ ?_
   refine pn 29 96 HT_ ?_
   refine pn 30 97 HT_ ?_
   refine pu 31 98 HT_ ?_
   refine done_ (done_of HT_.out (by kernel_rfl)) ?_
   try go_wp2
   go_meet
   case rel => exact ⟨_, (true), (by first | rfl | (simp; done) | (simp [*]; done)), H', ⟨by have := HJ2.out; have := HJ21.out; first | omega | exact Nat.le_refl _⟩, ⟨by (with_reducible repeat (first | refine blk_drewN ?_ _ | refine blk_drew ?_ | refine blk_alloc ?_ _)); exact BK166.out⟩, ⟨by (with_reducible repeat (first | refine blk_drewN ?_ _ | refine blk_drew ?_ | refine blk_alloc ?_ _)); exact BK172.out⟩, ⟨by repeat (first | (with_reducible first | exact HB.out | apply below_alloc | apply pw_below_drewN | apply below_drew1 | refine below_set ?_ GE166.out | refine below_set ?_ GE172.out) | exact HB.out)⟩⟩
 rw [if_pos c36] at H
 have c36b0 : (t175 == 0) = true := beq_iff_eq.mpr c36
 have c36b1 : (t175 != 0) = false := bne_eq_false_iff_eq.mpr c36
 clear c36
 (first | rw [c36b0] | (simp only [i64_w, i32_w]; rw [c36b0]) | skip)
 by_cases c37 : t162 < 1
 ·rw [if_pos c37] at H
  have c37b0 : decide (t162 < 1) = true := decide_eq_true c37
  clear c37
  have H' := mkA H
  clear H
  as_aux_lemma =>
   try go_wp2
   have n0_ := mkA (blk_drew BK166.out)
   have n1_ := mkA (blk_drew BK172.out)
   try (have HBd_ := mkA (below_drew1 (pw_below_drewN HB.out nd)))
   have n2_ := mkA (below_drew1 HB.out)
   clear BK166 BK172 HB
   have BK166 := n0_
   have BK172 := n1_
   have HB := n2_
   clear n0_ n1_ n2_
   refine start_ (n := 32) (S := fun w' => w'.cell? ⟨gb166, 0, none⟩ = some (.int .i64 t162) ∧ w'.cell? ⟨gb166, 1, none⟩ = some (.int .i64 t163) ∧ w'.cell? ⟨gb166, 2, none⟩ = some (.int .i64 t164)) (ds := []) #[false, false, false, false, false, false, false, false, false, false, false, false, false, false, false, false, false, false, false, false, false, false, false, false, false, false, false, false, false, false, false, false] (by kernel_rfl) rfl rfl ⟨(blk_cell BK166.out 0).trans rfl, (blk_cell BK166.out 1).trans rfl, (blk_cell BK166.out 2).trans rfl⟩ (fun hHeld => ?_); refine with_tabW stamp_Get.tab14 stamp_Get.bits14 (fun HT_ HW_ => ?_)
   generalize wc.drew = w38 at BK166 BK172 HB hHeld ⊢
   refine pu 0 67 HT_ ?_
   refine pu 1 68 HT_ ?_
   refine pu 2 69 HT_ ?_
   refine pu 3 70 HT_ ?_
   refine tk 4 71 HT_ HW_ hHeld ?_
   refine pu 5 72 HT_ ?_
   refine pu 6 73 HT_ ?_
   refine pu 7 74 HT_ ?_
   refine pn 8 75 HT_ ?_
   refine pn 9 76 HT_ ?_
   refine pn 10 77 HT_ ?_
   refine pn 11 78 HT_ ?_
   refine pn 12 79 HT_ ?_
   refine pn 13 80 HT_ ?_
   refine pn 14 81 HT_ ?_
   refine pn 15 82 HT_ ?_
   refine pu 16 83 HT_ ?_
   refine pu 17 84 HT_ ?_
   refine pn 18 85 HT_ ?_
   refine pn 19 86 HT_ ?_
   refine pn 20 87 HT_ ?_
   refine pu 21 88 HT_ ?_
   refine pu 22 89 HT_ ?_
   refine pn 23 90 HT_ ?_
   refine pn 24 91 HT_ ?_
   refine pn 25 92 HT_ ?_
   refine pu 26 93 HT_ ?_
   refine pu 27 94 HT_ ?_
   refine pn 28 95 HT_ ?_
   refine pn 29 96 HT_ ?_
   refine pn 30 97 HT_ ?_
   refine pu 31 98 HT_ ?_
   refine done_ (done_of HT_.out (by kernel_rfl)) ?_
   try go_wp2
   go_meet
   case rel => exact ⟨_, (true), (by first | rfl | (simp; done) | (simp [*]; done)), H', ⟨by have := HJ2.out; have := HJ21.out; first | omega | exact Nat.le_refl _⟩, ⟨by (with_reducible repeat (first | refine blk_drewN ?_ _ | refine blk_drew ?_ | refine blk_alloc ?_ _)); exact BK166.out⟩, ⟨by (with_reducible repeat (first | refine blk_drewN ?_ _ | refine blk_drew ?_ | refine blk_alloc ?_ _)); exact BK172.out⟩, ⟨by repeat (first | (with_reducible first | exact HB.out | apply below_alloc | apply pw_below_drewN | apply below_drew1 | refine below_set ?_ GE166.out | refine below_set ?_ GE172.out) | exact HB.out)⟩⟩
 rw [if_neg c37] at H
 have c37b0 : decide (t162 < 1) = false := decide_eq_false c37
 clear c37
 replace H := Option.bind_eq_some_iff.mp H
 obtain ⟨t176, A390, H⟩ := H
 replace H : (if t162 > t176 then (stamp_Get.j3 kj21 t174 true t162 t163 t164 t168 t169 t170) else (if t168 > 23 then (stamp_Get.j3 kj21 t174 true t162 t163 t164 t168 t169 t170) else (if t169 > 59 then (stamp_Get.j3 kj21 t174 true t162 t163 t164 t168 t169 t170) else (stamp_Get.j3 kj21 t174 (decide (t170 > 59)) t162 t163 t164 t168 t169 t170)))) = some (r1, r2) := H
 have A39 := mkA A390
 clear A390
 by_cases c40 : t162 > t176
 ·rw [if_pos c40] at H
  have c40b0 : decide (t176 < t162) = true := decide_eq_true c40
  clear c40
  have H' := mkA H
  clear H
  as_aux_lemma =>
   try go_wp2
   have n0_ := mkA (blk_drew BK166.out)
   have n1_ := mkA (blk_drew BK172.out)
   try (have HBd_ := mkA (below_drew1 (pw_below_drewN HB.out nd)))
   have n2_ := mkA (below_drew1 HB.out)
   clear BK166 BK172 HB
   have BK166 := n0_
   have BK172 := n1_
   have HB := n2_
   clear n0_ n1_ n2_
   refine start_ (n := 32) (S := fun w' => w'.cell? ⟨gb166, 0, none⟩ = some (.int .i64 t162) ∧ w'.cell? ⟨gb166, 1, none⟩ = some (.int .i64 t163) ∧ w'.cell? ⟨gb166, 2, none⟩ = some (.int .i64 t164)) (ds := []) #[false, false, false, false, false, false, false, false, false, false, false, false, false, false, false, false, false, false, false, false, false, false, false, false, false, false, false, false, false, false, false, false] (by kernel_rfl) rfl rfl ⟨(blk_cell BK166.out 0).trans rfl, (blk_cell BK166.out 1).trans rfl, (blk_cell BK166.out 2).trans rfl⟩ (fun hHeld => ?_); refine with_tabW stamp_Get.tab14 stamp_Get.bits14 (fun HT_ HW_ => ?_)
   generalize wc.drew = w41 at BK166 BK172 HB hHeld ⊢
   refine pu 0 67 HT_ ?_
   refine pu 1 68 HT_ ?_
   refine pu 2 69 HT_ ?_
   refine pu 3 70 HT_ ?_
   refine tk 4 71 HT_ HW_ hHeld ?_
   refine pu 5 72 HT_ ?_
   refine pu 6 73 HT_ ?_
   refine pu 7 74 HT_ ?_
   refine pu 8 75 HT_ ?_
   refine pu 10 77 HT_ ?_
   refine pu 12 79 HT_ ?_
   refine tk 9 76 HT_ HW_ hHeld ?_
   refine tk 11 78 HT_ HW_ hHeld ?_
   refine tk 13 80 HT_ HW_ hHeld ?_
   refine one_ (i := 14) (N := some 81) #[true, true, true, true, true, true, true, true, true, true, true, true, true, true, true, false, false, false, false, false, false, false, false, false, false, false, false, false, false, false, false, false] rfl rfl (one_of HT_.out (by kernel_rfl)) (by decide) (fun K hK => ?_)
   refine goes_ Tryd.func10 (by kernel_rfl) rfl #[.int .i64 t164, .int .i64 t163] (by rfl) rfl rfl ca ?_
   with_reducible refine (stamp_Days.calls t164 t163 t176 _ A39.out).mono ?_
   rintro e w42 ⟨rfl, hb⟩
   have hbk_w42 := mkA hb
   refine ⟨_, rfl, ?_⟩
   have n0_ := mkA (blk_below (blk_y BK166.out) hb)
   have n1_ := mkA (blk_below (blk_y BK172.out) hb)
   have n2_ := mkA (below_step (below_y HB.out) hb)
   clear BK166 BK172 HB
   have BK166 := n0_
   have BK172 := n1_
   have HB := n2_
   clear n0_ n1_ n2_
   (try clear hb)
   (try clear hb2)
   (try clear hk)
   (try clear hi)
   refine hK.out _ _ ⟨(blk_cell BK166.out 0).trans rfl, (blk_cell BK166.out 1).trans rfl, (blk_cell BK166.out 2).trans rfl⟩ (fun hHeld => ?_)
   clear hK K
   refine norm_ (a' := ?_) ?_ ?_
   rotate_left
   ·show Act.put _ (some 81) _ = _
    simp only [Act.put, sA, s0, sS, i64_w, i32_w]
    rfl
   refine pu 15 82 HT_ ?_
   refine pu 16 83 HT_ ?_
   refine pu 17 84 HT_ ?_
   refine pn 18 85 HT_ ?_
   refine pn 19 86 HT_ ?_
   refine pn 20 87 HT_ ?_
   refine pu 21 88 HT_ ?_
   refine pu 22 89 HT_ ?_
   refine pn 23 90 HT_ ?_
   refine pn 24 91 HT_ ?_
   refine pn 25 92 HT_ ?_
   refine pu 26 93 HT_ ?_
   refine pu 27 94 HT_ ?_
   refine pn 28 95 HT_ ?_
   refine pn 29 96 HT_ ?_
   refine pn 30 97 HT_ ?_
   refine pu 31 98 HT_ ?_
   refine done_ (done_of HT_.out (by kernel_rfl)) ?_
   try go_wp2
   go_meet
   case rel => exact ⟨_, (true), (by first | rfl | (simp; done) | (simp [*]; done)), H', ⟨by have := HJ2.out; have := HJ21.out; first | omega | exact Nat.le_refl _⟩, ⟨by (with_reducible repeat (first | refine blk_drewN ?_ _ | refine blk_drew ?_ | refine blk_alloc ?_ _)); exact BK166.out⟩, ⟨by (with_reducible repeat (first | refine blk_drewN ?_ _ | refine blk_drew ?_ | refine blk_alloc ?_ _)); exact BK172.out⟩, ⟨by repeat (first | (with_reducible first | exact HB.out | apply below_alloc | apply pw_below_drewN | apply below_drew1 | refine below_set ?_ GE166.out | refine below_set ?_ GE172.out) | exact HB.out)⟩⟩
 rw [if_neg c40] at H
 have c40b0 : decide (t176 < t162) = false := decide_eq_false c40
 clear c40
 by_cases c43 : t168 > 23
 ·rw [if_pos c43] at H
  have c43b0 : decide (23 < t168) = true := decide_eq_true c43
  clear c43
  have H' := mkA H
  clear H
  as_aux_lemma =>
   try go_wp2
   have n0_ := mkA (blk_drew BK166.out)
   have n1_ := mkA (blk_drew BK172.out)
   try (have HBd_ := mkA (below_drew1 (pw_below_drewN HB.out nd)))
   have n2_ := mkA (below_drew1 HB.out)
   clear BK166 BK172 HB
   have BK166 := n0_
   have BK172 := n1_
   have HB := n2_
   clear n0_ n1_ n2_
   refine start_ (n := 32) (S := fun w' => w'.cell? ⟨gb166, 0, none⟩ = some (.int .i64 t162) ∧ w'.cell? ⟨gb166, 1, none⟩ = some (.int .i64 t163) ∧ w'.cell? ⟨gb166, 2, none⟩ = some (.int .i64 t164) ∧ w'.cell? ⟨gb172, 0, none⟩ = some (.int .i64 t168) ∧ w'.cell? ⟨gb172, 1, none⟩ = some (.int .i64 t169) ∧ w'.cell? ⟨gb172, 2, none⟩ = some (.int .i64 t170)) (ds := []) #[false, false, false, false, false, false, false, false, false, false, false, false, false, false, false, false, false, false, false, false, false, false, false, false, false, false, false, false, false, false, false, false] (by kernel_rfl) rfl rfl ⟨(blk_cell BK166.out 0).trans rfl, (blk_cell BK166.out 1).trans rfl, (blk_cell BK166.out 2).trans rfl, (blk_cell BK172.out 0).trans rfl, (blk_cell BK172.out 1).trans rfl, (blk_cell BK172.out 2).trans rfl⟩ (fun hHeld => ?_); refine with_tabW stamp_Get.tab14 stamp_Get.bits14 (fun HT_ HW_ => ?_)
   generalize wc.drew = w44 at BK166 BK172 HB hHeld ⊢
   refine pu 0 67 HT_ ?_
   refine pu 1 68 HT_ ?_
   refine pu 2 69 HT_ ?_
   refine pu 3 70 HT_ ?_
   refine tk 4 71 HT_ HW_ hHeld ?_
   refine pu 5 72 HT_ ?_
   refine pu 6 73 HT_ ?_
   refine pu 7 74 HT_ ?_
   refine pu 8 75 HT_ ?_
   refine pu 10 77 HT_ ?_
   refine pu 12 79 HT_ ?_
   refine tk 9 76 HT_ HW_ hHeld ?_
   refine tk 11 78 HT_ HW_ hHeld ?_
   refine tk 13 80 HT_ HW_ hHeld ?_
   refine one_ (i := 14) (N := some 81) #[true, true, true, true, true, true, true, true, true, true, true, true, true, true, true, false, false, false, false, false, false, false, false, false, false, false, false, false, false, false, false, false] rfl rfl (one_of HT_.out (by kernel_rfl)) (by decide) (fun K hK => ?_)
   refine goes_ Tryd.func10 (by kernel_rfl) rfl #[.int .i64 t164, .int .i64 t163] (by rfl) rfl rfl ca ?_
   with_reducible refine (stamp_Days.calls t164 t163 t176 _ A39.out).mono ?_
   rintro e w45 ⟨rfl, hb⟩
   have hbk_w45 := mkA hb
   refine ⟨_, rfl, ?_⟩
   have n0_ := mkA (blk_below (blk_y BK166.out) hb)
   have n1_ := mkA (blk_below (blk_y BK172.out) hb)
   have n2_ := mkA (below_step (below_y HB.out) hb)
   clear BK166 BK172 HB
   have BK166 := n0_
   have BK172 := n1_
   have HB := n2_
   clear n0_ n1_ n2_
   (try clear hb)
   (try clear hb2)
   (try clear hk)
   (try clear hi)
   refine hK.out _ _ ⟨(blk_cell BK166.out 0).trans rfl, (blk_cell BK166.out 1).trans rfl, (blk_cell BK166.out 2).trans rfl, (blk_cell BK172.out 0).trans rfl, (blk_cell BK172.out 1).trans rfl, (blk_cell BK172.out 2).trans rfl⟩ (fun hHeld => ?_)
   clear hK K
   refine norm_ (a' := ?_) ?_ ?_
   rotate_left
   ·show Act.put _ (some 81) _ = _
    simp only [Act.put, sA, s0, sS, i64_w, i32_w]
    rfl
   refine pu 15 82 HT_ ?_
   refine pu 16 83 HT_ ?_
   refine pu 17 84 HT_ ?_
   refine pu 18 85 HT_ ?_
   refine tk 19 86 HT_ HW_ hHeld ?_
   refine pu 20 87 HT_ ?_
   refine pu 21 88 HT_ ?_
   refine pu 22 89 HT_ ?_
   refine pn 23 90 HT_ ?_
   refine pn 24 91 HT_ ?_
   refine pn 25 92 HT_ ?_
   refine pu 26 93 HT_ ?_
   refine pu 27 94 HT_ ?_
   refine pn 28 95 HT_ ?_
   refine pn 29 96 HT_ ?_
   refine pn 30 97 HT_ ?_
   refine pu 31 98 HT_ ?_
   refine done_ (done_of HT_.out (by kernel_rfl)) ?_
   try go_wp2
   go_meet
   case rel => exact ⟨_, (true), (by first | rfl | (simp; done) | (simp [*]; done)), H', ⟨by have := HJ2.out; have := HJ21.out; first | omega | exact Nat.le_refl _⟩, ⟨by (with_reducible repeat (first | refine blk_drewN ?_ _ | refine blk_drew ?_ | refine blk_alloc ?_ _)); exact BK166.out⟩, ⟨by (with_reducible repeat (first | refine blk_drewN ?_ _ | refine blk_drew ?_ | refine blk_alloc ?_ _)); exact BK172.out⟩, ⟨by repeat (first | (with_reducible first | exact HB.out | apply below_alloc | apply pw_below_drewN | apply below_drew1 | refine below_set ?_ GE166.out | refine below_set ?_ GE172.out) | exact HB.out)⟩⟩
 rw [if_neg c43] at H
 have c43b0 : decide (23 < t168) = false := decide_eq_false c43
 clear c43
 by_cases c46 : t169 > 59
 ·rw [if_pos c46] at H
  have c46b0 : decide (59 < t169) = true := decide_eq_true c46
  clear c46
  have H' := mkA H
  clear H
  as_aux_lemma =>
   try go_wp2
   have n0_ := mkA (blk_drew BK166.out)
   have n1_ := mkA (blk_drew BK172.out)
   try (have HBd_ := mkA (below_drew1 (pw_below_drewN HB.out nd)))
   have n2_ := mkA (below_drew1 HB.out)
   clear BK166 BK172 HB
   have BK166 := n0_
   have BK172 := n1_
   have HB := n2_
   clear n0_ n1_ n2_
   refine start_ (n := 32) (S := fun w' => w'.cell? ⟨gb166, 0, none⟩ = some (.int .i64 t162) ∧ w'.cell? ⟨gb166, 1, none⟩ = some (.int .i64 t163) ∧ w'.cell? ⟨gb166, 2, none⟩ = some (.int .i64 t164) ∧ w'.cell? ⟨gb172, 0, none⟩ = some (.int .i64 t168) ∧ w'.cell? ⟨gb172, 1, none⟩ = some (.int .i64 t169) ∧ w'.cell? ⟨gb172, 2, none⟩ = some (.int .i64 t170)) (ds := []) #[false, false, false, false, false, false, false, false, false, false, false, false, false, false, false, false, false, false, false, false, false, false, false, false, false, false, false, false, false, false, false, false] (by kernel_rfl) rfl rfl ⟨(blk_cell BK166.out 0).trans rfl, (blk_cell BK166.out 1).trans rfl, (blk_cell BK166.out 2).trans rfl, (blk_cell BK172.out 0).trans rfl, (blk_cell BK172.out 1).trans rfl, (blk_cell BK172.out 2).trans rfl⟩ (fun hHeld => ?_); refine with_tabW stamp_Get.tab14 stamp_Get.bits14 (fun HT_ HW_ => ?_)
   generalize wc.drew = w47 at BK166 BK172 HB hHeld ⊢
   refine pu 0 67 HT_ ?_
   refine pu 1 68 HT_ ?_
   refine pu 2 69 HT_ ?_
   refine pu 3 70 HT_ ?_
   refine tk 4 71 HT_ HW_ hHeld ?_
   refine pu 5 72 HT_ ?_
   refine pu 6 73 HT_ ?_
   refine pu 7 74 HT_ ?_
   refine pu 8 75 HT_ ?_
   refine pu 10 77 HT_ ?_
   refine pu 12 79 HT_ ?_
   refine tk 9 76 HT_ HW_ hHeld ?_
   refine tk 11 78 HT_ HW_ hHeld ?_
   refine tk 13 80 HT_ HW_ hHeld ?_
   refine one_ (i := 14) (N := some 81) #[true, true, true, true, true, true, true, true, true, true, true, true, true, true, true, false, false, false, false, false, false, false, false, false, false, false, false, false, false, false, false, false] rfl rfl (one_of HT_.out (by kernel_rfl)) (by decide) (fun K hK => ?_)
   refine goes_ Tryd.func10 (by kernel_rfl) rfl #[.int .i64 t164, .int .i64 t163] (by rfl) rfl rfl ca ?_
   with_reducible refine (stamp_Days.calls t164 t163 t176 _ A39.out).mono ?_
   rintro e w48 ⟨rfl, hb⟩
   have hbk_w48 := mkA hb
   refine ⟨_, rfl, ?_⟩
   have n0_ := mkA (blk_below (blk_y BK166.out) hb)
   have n1_ := mkA (blk_below (blk_y BK172.out) hb)
   have n2_ := mkA (below_step (below_y HB.out) hb)
   clear BK166 BK172 HB
   have BK166 := n0_
   have BK172 := n1_
   have HB := n2_
   clear n0_ n1_ n2_
   (try clear hb)
   (try clear hb2)
   (try clear hk)
   (try clear hi)
   refine hK.out _ _ ⟨(blk_cell BK166.out 0).trans rfl, (blk_cell BK166.out 1).trans rfl, (blk_cell BK166.out 2).trans rfl, (blk_cell BK172.out 0).trans rfl, (blk_cell BK172.out 1).trans rfl, (blk_cell BK172.out 2).trans rfl⟩ (fun hHeld => ?_)
   clear hK K
   refine norm_ (a' := ?_) ?_ ?_
   rotate_left
   ·show Act.put _ (some 81) _ = _
    simp only [Act.put, sA, s0, sS, i64_w, i32_w]
    rfl
   refine pu 15 82 HT_ ?_
   refine pu 16 83 HT_ ?_
   refine pu 17 84 HT_ ?_
   refine pu 18 85 HT_ ?_
   refine tk 19 86 HT_ HW_ hHeld ?_
   refine pu 20 87 HT_ ?_
   refine pu 21 88 HT_ ?_
   refine pu 22 89 HT_ ?_
   refine pu 23 90 HT_ ?_
   refine tk 24 91 HT_ HW_ hHeld ?_
   refine pu 25 92 HT_ ?_
   refine pu 26 93 HT_ ?_
   refine pu 27 94 HT_ ?_
   refine pn 28 95 HT_ ?_
   refine pn 29 96 HT_ ?_
   refine pn 30 97 HT_ ?_
   refine pu 31 98 HT_ ?_
   refine done_ (done_of HT_.out (by kernel_rfl)) ?_
   try go_wp2
   go_meet
   case rel => exact ⟨_, (true), (by first | rfl | (simp; done) | (simp [*]; done)), H', ⟨by have := HJ2.out; have := HJ21.out; first | omega | exact Nat.le_refl _⟩, ⟨by (with_reducible repeat (first | refine blk_drewN ?_ _ | refine blk_drew ?_ | refine blk_alloc ?_ _)); exact BK166.out⟩, ⟨by (with_reducible repeat (first | refine blk_drewN ?_ _ | refine blk_drew ?_ | refine blk_alloc ?_ _)); exact BK172.out⟩, ⟨by repeat (first | (with_reducible first | exact HB.out | apply below_alloc | apply pw_below_drewN | apply below_drew1 | refine below_set ?_ GE166.out | refine below_set ?_ GE172.out) | exact HB.out)⟩⟩
 rw [if_neg c46] at H
 have c46b0 : decide (59 < t169) = false := decide_eq_false c46
 clear c46
 have H' := mkA H
 clear H
 as_aux_lemma =>
  try go_wp2
  have n0_ := mkA (blk_drew BK166.out)
  have n1_ := mkA (blk_drew BK172.out)
  try (have HBd_ := mkA (below_drew1 (pw_below_drewN HB.out nd)))
  have n2_ := mkA (below_drew1 HB.out)
  clear BK166 BK172 HB
  have BK166 := n0_
  have BK172 := n1_
  have HB := n2_
  clear n0_ n1_ n2_
  refine start_ (n := 32) (S := fun w' => w'.cell? ⟨gb166, 0, none⟩ = some (.int .i64 t162) ∧ w'.cell? ⟨gb166, 1, none⟩ = some (.int .i64 t163) ∧ w'.cell? ⟨gb166, 2, none⟩ = some (.int .i64 t164) ∧ w'.cell? ⟨gb172, 0, none⟩ = some (.int .i64 t168) ∧ w'.cell? ⟨gb172, 1, none⟩ = some (.int .i64 t169) ∧ w'.cell? ⟨gb172, 2, none⟩ = some (.int .i64 t170)) (ds := []) #[false, false, false, false, false, false, false, false, false, false, false, false, false, false, false, false, false, false, false, false, false, false, false, false, false, false, false, false, false, false, false, false] (by kernel_rfl) rfl rfl ⟨(blk_cell BK166.out 0).trans rfl, (blk_cell BK166.out 1).trans rfl, (blk_cell BK166.out 2).trans rfl, (blk_cell BK172.out 0).trans rfl, (blk_cell BK172.out 1).trans rfl, (blk_cell BK172.out 2).trans rfl⟩ (fun hHeld => ?_); refine with_tabW stamp_Get.tab14 stamp_Get.bits14 (fun HT_ HW_ => ?_)
  generalize wc.drew = w49 at BK166 BK172 HB hHeld ⊢
  refine pu 0 67 HT_ ?_
  refine pu 1 68 HT_ ?_
  refine pu 2 69 HT_ ?_
  refine pu 3 70 HT_ ?_
  refine tk 4 71 HT_ HW_ hHeld ?_
  refine pu 5 72 HT_ ?_
  refine pu 6 73 HT_ ?_
  refine pu 7 74 HT_ ?_
  refine pu 8 75 HT_ ?_
  refine pu 10 77 HT_ ?_
  refine pu 12 79 HT_ ?_
  refine tk 9 76 HT_ HW_ hHeld ?_
  refine tk 11 78 HT_ HW_ hHeld ?_
  refine tk 13 80 HT_ HW_ hHeld ?_
  refine one_ (i := 14) (N := some 81) #[true, true, true, true, true, true, true, true, true, true, true, true, true, true, true, false, false, false, false, false, false, false, false, false, false, false, false, false, false, false, false, false] rfl rfl (one_of HT_.out (by kernel_rfl)) (by decide) (fun K hK => ?_)
  refine goes_ Tryd.func10 (by kernel_rfl) rfl #[.int .i64 t164, .int .i64 t163] (by rfl) rfl rfl ca ?_
  with_reducible refine (stamp_Days.calls t164 t163 t176 _ A39.out).mono ?_
  rintro e w50 ⟨rfl, hb⟩
  have hbk_w50 := mkA hb
  refine ⟨_, rfl, ?_⟩
  have n0_ := mkA (blk_below (blk_y BK166.out) hb)
  have n1_ := mkA (blk_below (blk_y BK172.out) hb)
  have n2_ := mkA (below_step (below_y HB.out) hb)
  clear BK166 BK172 HB
  have BK166 := n0_
  have BK172 := n1_
  have HB := n2_
  clear n0_ n1_ n2_
  (try clear hb)
  (try clear hb2)
  (try clear hk)
  (try clear hi)
  refine hK.out _ _ ⟨(blk_cell BK166.out 0).trans rfl, (blk_cell BK166.out 1).trans rfl, (blk_cell BK166.out 2).trans rfl, (blk_cell BK172.out 0).trans rfl, (blk_cell BK172.out 1).trans rfl, (blk_cell BK172.out 2).trans rfl⟩ (fun hHeld => ?_)
  clear hK K
  refine norm_ (a' := ?_) ?_ ?_
  rotate_left
  ·show Act.put _ (some 81) _ = _
   simp only [Act.put, sA, s0, sS, i64_w, i32_w]
   rfl
  refine pu 15 82 HT_ ?_
  refine pu 16 83 HT_ ?_
  refine pu 17 84 HT_ ?_
  refine pu 18 85 HT_ ?_
  refine tk 19 86 HT_ HW_ hHeld ?_
  refine pu 20 87 HT_ ?_
  refine pu 21 88 HT_ ?_
  refine pu 22 89 HT_ ?_
  refine pu 23 90 HT_ ?_
  refine tk 24 91 HT_ HW_ hHeld ?_
  refine pu 25 92 HT_ ?_
  refine pu 26 93 HT_ ?_
  refine pu 27 94 HT_ ?_
  refine pu 28 95 HT_ ?_
  refine tk 29 96 HT_ HW_ hHeld ?_
  refine pu 30 97 HT_ ?_
  refine pu 31 98 HT_ ?_
  refine done_ (done_of HT_.out (by kernel_rfl)) ?_
  try go_wp2
  go_meet
  case rel => exact ⟨_, (decide (t170 > 59)), (by first | rfl | (simp; done) | (simp [*]; done)), H', ⟨by have := HJ2.out; have := HJ21.out; first | omega | exact Nat.le_refl _⟩, ⟨by (with_reducible repeat (first | refine blk_drewN ?_ _ | refine blk_drew ?_ | refine blk_alloc ?_ _)); exact BK166.out⟩, ⟨by (with_reducible repeat (first | refine blk_drewN ?_ _ | refine blk_drew ?_ | refine blk_alloc ?_ _)); exact BK172.out⟩, ⟨by repeat (first | (with_reducible first | exact HB.out | apply below_alloc | apply pw_below_drewN | apply below_drew1 | refine below_set ?_ GE166.out | refine below_set ?_ GE172.out) | exact HB.out)⟩⟩

end Go.Proofs.YtghdkpcpgpfgcaaDoor.XStb
