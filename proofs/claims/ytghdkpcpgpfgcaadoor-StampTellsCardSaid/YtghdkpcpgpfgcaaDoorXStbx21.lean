import Derived.Test.YtghdkpcpgpfgcaaDoorXStbM0a
namespace Go.Proofs.YtghdkpcpgpfgcaaDoor.XStb
open Go.RowKit Go.Proofs.YtghdkpcpgpfgcaaDoorW.PrintWords Go.Proofs.YtghdkpcpgpfgcaaDoorW.PrintLast Go.Proofs.YtghdkpcpgpfgcaaDoorW.PrintMore
attribute [local go_sem] max2_int min2_int max_two min_two max_three min_three max_four min_four   -- for this text's walks alone
set_option linter.unusedVariables false
set_option linter.unusedSimpArgs false

/-! ### stamp_parseClock: function 16 -/
def stamp_parseClock.j0 : Nat → List ByteArray → Option (Int × Int × Int × Bool)
 | 0, _ => none
 | k + 1, x4 => if (x4.length : Int) = 3 then (if 0 < (x4.length : Int) then ((stamp_digits.f k (rdOf ByteArray.empty x4 0) 2 2).bind fun t138 => (if 1 < (x4.length : Int) then ((stamp_digits.f k (rdOf ByteArray.empty x4 1) 2 2).bind fun t140 => (if 2 < (x4.length : Int) then ((stamp_digits.f k (rdOf ByteArray.empty x4 2) 2 2).bind fun t142 => (if t138 ≥ 0 then (if t140 ≥ 0 then (some (t138, t140, t142, decide (t142 ≥ 0))) else (some (t138, t140, t142, false))) else (some (t138, t140, t142, false)))) else (none))) else (none))) else (none)) else (some (0, 0, 0, false))
def stamp_parseClock.f (k : Nat) (a0 : ByteArray) : Option (Int × Int × Int × Bool) := (text_Split.f k a0 58).bind fun t131 => (if (t131.length : Int) = 2 then (if t131.length < 8796093022208 then (stamp_parseClock.j0 k (t131 ++ [(⟨#[48, 48]⟩ : ByteArray)])) else (none)) else (stamp_parseClock.j0 k t131))
theorem stamp_parseClock.mono_l : ∀ k, (∀ y0, LeO (stamp_parseClock.j0 k y0) (stamp_parseClock.j0 (k + 1) y0))
 | 0 => fun _ r h => by simp [stamp_parseClock.j0] at h
 | k + 1 => by
  have ih0 := stamp_parseClock.mono_l k
  ·intro y0
   unfold stamp_parseClock.j0
   repeat' first
   | (with_reducible exact ih0 _)
   | (with_reducible exact stamp_digits.mono _ _ _ _)
   | (with_reducible exact text_Split.mono _ _ _)
   | (with_reducible exact LeO.refl _)
   | (with_reducible exact LeO.none _)
   | (with_reducible refine LeO.ite ?_ ?_)
   | (with_reducible refine LeO.bind ?_ (fun _ => ?_))
   | exact ih0 _
   | exact stamp_digits.mono _ _ _ _
   | exact text_Split.mono _ _ _
   | exact LeO.none _
   | refine LeO.ite ?_ ?_
   | refine LeO.bind ?_ (fun _ => ?_)
theorem stamp_parseClock.mono : ∀ a0 k, LeO (stamp_parseClock.f k a0) (stamp_parseClock.f (k + 1) a0) := by
 intro a0 k
 have ih0 := stamp_parseClock.mono_l k
 unfold stamp_parseClock.f
 repeat' first
   | (with_reducible exact ih0 _)
   | (with_reducible exact stamp_digits.mono _ _ _ _)
   | (with_reducible exact text_Split.mono _ _ _)
   | (with_reducible exact LeO.refl _)
   | (with_reducible exact LeO.none _)
   | (with_reducible refine LeO.ite ?_ ?_)
   | (with_reducible refine LeO.bind ?_ (fun _ => ?_))
   | exact ih0 _
   | exact stamp_digits.mono _ _ _ _
   | exact text_Split.mono _ _ _
   | exact LeO.none _
   | refine LeO.ite ?_ ?_
   | refine LeO.bind ?_ (fun _ => ?_)
def stamp_parseClock.T6 : Bool × List (List Nat × List Nat) := (true, [([], []), ([0], [0]), ([1], [1]), ([2], [2]), ([], []), ([4], [4]), ([5], [5]), ([6, 3], [6]), ([], []), ([8], [8]), ([9], [9]), ([10, 7], [10]), ([3, 7, 11], [3, 7, 11]), ([], []), ([13, 12, 11, 0, 1, 2, 3, 4, 5, 6, 7, 8, 9, 10, 11, 12, 13], [12, 13])])
def stamp_parseClock.B6 : List Nat := [0, 1, 3, 7, 0, 16, 48, 127, 0, 256, 768, 2047, 4095, 0, 16383]
theorem stamp_parseClock.tab6 : rtab .any (opsOf Tryd.f16 6) = stamp_parseClock.T6 := by kernel_rfl
theorem stamp_parseClock.bits6 : waitsOk stamp_parseClock.T6.2 stamp_parseClock.B6 = true := by kernel_rfl
def stamp_parseClock.T7 : Bool × List (List Nat × List Nat) := (true, [([], []), ([], []), ([1], [1]), ([2], [2]), ([3], [3]), ([4], [4]), ([5, 4], [4, 5]), ([6, 4], [4, 6]), ([4, 7], [4, 7]), ([8, 4], [8]), ([9], [9]), ([10, 9], [9, 10]), ([11, 9], [9, 11]), ([9, 12], [9, 12]), ([0, 9, 0], [0]), ([13, 14, 0, 1, 2, 3, 4, 5, 6, 7, 8, 9, 10, 11, 12, 13, 14], [13])])
def stamp_parseClock.B7 : List Nat := [0, 0, 2, 6, 14, 30, 62, 126, 254, 510, 1022, 2046, 4094, 8190, 1023, 32767]
theorem stamp_parseClock.tab7 : rtab .any (opsOf Tryd.f16 7) = stamp_parseClock.T7 := by kernel_rfl
theorem stamp_parseClock.bits7 : waitsOk stamp_parseClock.T7.2 stamp_parseClock.B7 = true := by kernel_rfl
set_option maxHeartbeats 8000000 in
set_option maxRecDepth 100000 in
theorem stamp_parseClock.calls (k : Nat) (a0 : ByteArray) (r1 : Int) (r2 : Int) (r3 : Int) (r4 : Bool) (w : World) (h : stamp_parseClock.f k a0 = some (r1, r2, r3, r4)) :
  Calls Tryd.prog 16 #[.string a0] w fun e w' => e = .returned (.tuple #[.agg #[.int .i64 r1, .int .i64 r2, .int .i64 r3], .bool r4]) ∧ Below w.heap.size w w' := by
 have hu45 := Tryd.underlying45
 have HB := mkA (Below.refl w.heap.size w)
 have H : ((text_Split.f k a0 58).bind fun t131 => (if (t131.length : Int) = 2 then (if t131.length < 8796093022208 then (stamp_parseClock.j0 k (t131 ++ [(⟨#[48, 48]⟩ : ByteArray)])) else (none)) else (stamp_parseClock.j0 k t131))) = some (r1, r2, r3, r4) := h
 clear h
 replace H := Option.bind_eq_some_iff.mp H
 obtain ⟨t131, A20, H⟩ := H
 replace H : (if (t131.length : Int) = 2 then (if t131.length < 8796093022208 then (stamp_parseClock.j0 k (t131 ++ [(⟨#[48, 48]⟩ : ByteArray)])) else (none)) else (stamp_parseClock.j0 k t131)) = some (r1, r2, r3, r4) := H
 have A2 := mkA A20
 clear A20
 have HC3 := mkA H
 clear H
 go_enter Tryd.func16, Tryd.ntmps16
 go_upto_if 10 with (first | ((with_reducible refine gate_dst (N := 2) rfl ?_); refine box_event ?hg (N := 2) ?hd (cs := #[.int .i64 0, .int .i64 0, .int .i64 0]) (t := 45) ?hr ?_; (case hd => rfl); (case hg => rfl); (case hr => first | (go_simp; done) | (go_simp; rfl)); intro gb130 hg w4 hbox hb; have n0_ := mkA (below_step (below_y HB.out) hb); have n1_ := mkA (hbox); have n2_ := mkA ((gz hg HB.out : w.heap.size ≤ gb130)); have n3_ := mkA ((gz hg HB.out : w.heap.size ≤ gb130)); clear HB; have HB := n0_; have BK130 := n1_; have GW130 := n2_; have GE130 := n3_; clear n0_ n1_ n2_ n3_; clear hb hbox hg) | ((with_reducible refine gate_callee (f := 36) rfl ?_); refine goesL_ (some 7) rfl rfl Tryd.func36 (by kernel_rfl) rfl #[.string a0, .int .u8 58] rfl ca ?_; (with_reducible refine (text_Split.calls k a0 58 t131 _ A2.out).mono ?_); rintro e w5 ⟨v132, rfl, ho0, hb⟩; refine ⟨_, rfl, ?_⟩; have n0_ := mkA (Kd.R_lower ho0 (below_size (below_y HB.out))); have n1_ := mkA (blk_below (blk_y BK130.out) hb); have n2_ := mkA (below_step (below_y HB.out) hb); clear BK130; clear HB; have HO133 := n0_; have BK130 := n1_; have HB := n2_; clear n0_ n1_ n2_; (try clear hb); (try clear hb2); (try clear hk); (try clear hi); (try clear ho0); obtain ⟨Ao6, co6, eo6⟩ := Kd.R_slice HO133.out; subst eo6))
 (try simp only [Act.put, sA, s0, sS])
 go_cut [4] (fun v4 wc => ∃ (kq : Nat) (x4_2 : List ByteArray), Aside0 (stamp_parseClock.j0 kq x4_2 = some (r1, r2, r3, r4)) ∧ Aside0 (kq ≤ k) ∧ Aside0 (Kd.R Kd.string 9 wc w.heap.size (fun _ => True) v4 x4_2) ∧ Aside0 (wc.heap[gb130]? = some (.cells #[.int .i64 0, .int .i64 0, .int .i64 0] 45 (0, 0))) ∧ Aside0 (Below w.heap.size w wc))
 case first =>
  have H := HC3.out
  clear HC3
  by_cases c7 : (t131.length : Int) = 2
  ·rw [if_pos c7] at H
   have c7b0 : ((t131.length : Int) == 2) = true := beq_iff_eq.mpr c7
   have c7b1 : ((t131.length : Int) != 2) = false := bne_eq_false_iff_eq.mpr c7
   clear c7
   (first | rw [c7b0] | (simp only [i64_w, i32_w]; rw [c7b0]) | skip)
   by_cases c8 : t131.length < 8796093022208
   ·rw [if_pos c8] at H
    have LMc8 := mkA c8
    clear c8
    obtain ⟨y134, hy134⟩ : ∃ y_ : List ByteArray, y_ = (t131 ++ [(⟨#[48, 48]⟩ : ByteArray)]) := ⟨_, rfl⟩
    replace H : (stamp_parseClock.j0 k y134) = some (r1, r2, r3, r4) := by first | (rw [hy134]; with_reducible exact H) | (have H2_ := (Option.bind_some _ _).symm.trans H; rw [hy134]; with_reducible exact H2_) | (have H2_ := (Option.bind_some _ _).symm.trans H; with_reducible exact H2_) | with_reducible exact H | (rw [hy134]; exact H) | exact H
    have Ny134 := mkA hy134
    clear hy134
    as_aux_lemma =>
     have H' := mkA H
     clear H
     go_wp2_with (first | ((with_reducible refine gate_builtin (b := .append) (xs := #[.tmp 11, .tmp 12]) rfl ?_); at_builtin; refine Kd.R_append Kd.string (w0 := w) w.heap.size rfl (.tmp 11) (.tmp 12) 35 9 (.string ⟨#[]⟩) 16 rfl Tryd.underlying35 info9 rfl (by decide) (by omega) (.slice Ao6 t131.length co6) t131 (⟨#[48, 48]⟩ : ByteArray) [.string (⟨#[48, 48]⟩ : ByteArray)] (fun _ => True) (fun _ => False) rfl rfl ?aP (fun _ hk => hk.elim) ?aF ?aO ?aB ?aS ?aL ?_; (case aP => exact rfl); (case aB => exact (below_y HB.out)); (case aF => exact (fun _ _ => trivial)); (case aO => exact (Kd.R_y HO133.out)); (case aS => exact (below_size (below_y HB.out))); (case aL => have := LMc8.out; omega); intro v135 w9 ho hb hg hat; rw [← Ny134.out] at ho; have n0_ := mkA (blk_grown (blk_y BK130.out) hg (Kd.R_ne HO133.out BK130.out (by decide))); have n1_ := mkA (hb); have n2_ := mkA (ho); clear BK130; clear HB; clear HO133; have BK130 := n0_; have HB := n1_; have HO136 := n2_; clear n0_ n1_ n2_; clear ho hb hg hat))
     go_meet
     case rel => exact ⟨_, (y134), H', ⟨by first | omega | exact Nat.le_refl _⟩, ⟨by (with_reducible repeat (first | apply Kd.R_alloc | apply Kd.R_drewN | apply Kd.R_drew)); exact HO136.out⟩, ⟨by (with_reducible repeat (first | refine blk_drewN ?_ _ | refine blk_drew ?_ | refine blk_alloc ?_ _)); exact BK130.out⟩, ⟨by repeat (first | (with_reducible first | exact HB.out | apply below_alloc | apply pw_below_drewN | apply below_drew1 | refine below_set ?_ GE130.out) | exact HB.out)⟩⟩
   ·rw [if_neg c8] at H
    exact absurd H (by simp)
  ·rw [if_neg c7] at H
   have c7b0 : ((t131.length : Int) == 2) = false := beq_eq_false_iff_ne.mpr c7
   have c7b1 : ((t131.length : Int) != 2) = true := bne_iff_ne.mpr c7
   (first | rw [c7b0] | (simp only [i64_w, i32_w]; rw [c7b0]) | skip)
   as_aux_lemma =>
    have H' := mkA H
    clear H
    go_wp2
    go_meet
    case rel => exact ⟨_, (t131), H', ⟨by first | omega | exact Nat.le_refl _⟩, ⟨by (with_reducible repeat (first | apply Kd.R_alloc | apply Kd.R_drewN | apply Kd.R_drew)); exact HO133.out⟩, ⟨by (with_reducible repeat (first | refine blk_drewN ?_ _ | refine blk_drew ?_ | refine blk_alloc ?_ _)); exact BK130.out⟩, ⟨by repeat (first | (with_reducible first | exact HB.out | apply below_alloc | apply pw_below_drewN | apply below_drew1 | refine below_set ?_ GE130.out) | exact HB.out)⟩⟩
 clear HC3
 try clear c1
 try clear p2
 try clear c3
 try clear c7
 try clear c7b0
 try clear c7b1
 try clear c8
 obtain ⟨kq, x4_2, HA, HJ2, HO_4, BK130, HB⟩ := hcut
 rcases kq with _ | kj2
 ·exact absurd HA.out (by simp [stamp_parseClock.j0])
 have H := HA.out
 clear HA
 simp only [stamp_parseClock.j0] at H
 by_cases c10 : (x4_2.length : Int) = 3
 rotate_left
 ·rw [if_neg c10] at H
  have c10b0 : ((x4_2.length : Int) == 3) = false := beq_eq_false_iff_ne.mpr c10
  have c10b1 : ((x4_2.length : Int) != 3) = true := bne_iff_ne.mpr c10
  simp only [Option.some.injEq, Prod.mk.injEq] at H
  obtain ⟨rfl, rfl, rfl, rfl⟩ := H
  as_aux_lemma =>
   obtain ⟨Ao64, co64, eo64⟩ := Kd.R_slice HO_4.out
   subst eo64
   have hcz65_0 := bc BK130.out 0 (.int .i64 0) rfl
   have hcz65_1 := bc BK130.out 1 (.int .i64 0) rfl
   have hcz65_2 := bc BK130.out 2 (.int .i64 0) rfl
   have hfz65_0 := blk_frozen BK130.out 0
   have hfz65_1 := blk_frozen BK130.out 1
   have hfz65_2 := blk_frozen BK130.out 2
   go_wp2
   refine bodyPost_ret (results_ct rfl _ _ gb130 45 #[.int .i64 0, .int .i64 0, .int .i64 0] (0, 0) _ rfl (by (with_reducible repeat (first | refine blk_drewN ?_ _ | refine blk_drew ?_ | refine blk_alloc ?_ _)); refine blk_put (cs := #[.int .i64 0, .int .i64 0, .int .i64 0]) ?_ 2 _ rfl; (with_reducible repeat (first | refine blk_drewN ?_ _ | refine blk_drew ?_ | refine blk_alloc ?_ _)); refine blk_put (cs := #[.int .i64 0, .int .i64 0, .int .i64 0]) ?_ 1 _ rfl; (with_reducible repeat (first | refine blk_drewN ?_ _ | refine blk_drew ?_ | refine blk_alloc ?_ _)); refine blk_put (cs := #[.int .i64 0, .int .i64 0, .int .i64 0]) ?_ 0 _ rfl; (with_reducible repeat (first | refine blk_drewN ?_ _ | refine blk_drew ?_ | refine blk_alloc ?_ _)); exact BK130.out) Tryd.underlying45 rfl (by kernel_rfl)) rfl ?_
   exact ⟨by first | rfl | (simp [errW_none, errW_some] <;> rfl) | (simp [*, errW_none, errW_some] <;> rfl), by repeat (first | (with_reducible first | exact HB.out | apply below_alloc | apply pw_below_drewN | apply below_drew1 | refine below_set ?_ GE130.out) | exact HB.out)⟩
 rw [if_pos c10] at H
 have c10b0 : ((x4_2.length : Int) == 3) = true := beq_iff_eq.mpr c10
 have c10b1 : ((x4_2.length : Int) != 3) = false := bne_eq_false_iff_eq.mpr c10
 clear c10
 by_cases c11 : 0 < (x4_2.length : Int)
 rotate_left
 ·rw [if_neg c11] at H
  exact absurd H (by simp)
 rw [if_pos c11] at H
 have c11b0 : decide (0 < (x4_2.length : Int)) = true := decide_eq_true c11
 have c11b1 : decide (0 < x4_2.length) = true := decide_eq_true (by omega)
 clear c11
 replace H := Option.bind_eq_some_iff.mp H
 obtain ⟨t138, A120, H⟩ := H
 replace H : (if 1 < (x4_2.length : Int) then ((stamp_digits.f kj2 (rdOf ByteArray.empty x4_2 1) 2 2).bind fun t140 => (if 2 < (x4_2.length : Int) then ((stamp_digits.f kj2 (rdOf ByteArray.empty x4_2 2) 2 2).bind fun t142 => (if t138 ≥ 0 then (if t140 ≥ 0 then (some (t138, t140, t142, decide (t142 ≥ 0))) else (some (t138, t140, t142, false))) else (some (t138, t140, t142, false)))) else (none))) else (none)) = some (r1, r2, r3, r4) := H
 have A12 := mkA A120
 clear A120
 by_cases c13 : 1 < (x4_2.length : Int)
 rotate_left
 ·rw [if_neg c13] at H
  exact absurd H (by simp)
 rw [if_pos c13] at H
 have c13b0 : decide (1 < (x4_2.length : Int)) = true := decide_eq_true c13
 have c13b1 : decide (1 < x4_2.length) = true := decide_eq_true (by omega)
 clear c13
 replace H := Option.bind_eq_some_iff.mp H
 obtain ⟨t140, A140, H⟩ := H
 replace H : (if 2 < (x4_2.length : Int) then ((stamp_digits.f kj2 (rdOf ByteArray.empty x4_2 2) 2 2).bind fun t142 => (if t138 ≥ 0 then (if t140 ≥ 0 then (some (t138, t140, t142, decide (t142 ≥ 0))) else (some (t138, t140, t142, false))) else (some (t138, t140, t142, false)))) else (none)) = some (r1, r2, r3, r4) := H
 have A14 := mkA A140
 clear A140
 by_cases c15 : 2 < (x4_2.length : Int)
 rotate_left
 ·rw [if_neg c15] at H
  exact absurd H (by simp)
 rw [if_pos c15] at H
 have c15b0 : decide (2 < (x4_2.length : Int)) = true := decide_eq_true c15
 have c15b1 : decide (2 < x4_2.length) = true := decide_eq_true (by omega)
 clear c15
 replace H := Option.bind_eq_some_iff.mp H
 obtain ⟨t142, A160, H⟩ := H
 replace H : (if t138 ≥ 0 then (if t140 ≥ 0 then (some (t138, t140, t142, decide (t142 ≥ 0))) else (some (t138, t140, t142, false))) else (some (t138, t140, t142, false))) = some (r1, r2, r3, r4) := H
 have A16 := mkA A160
 clear A160
 obtain ⟨Ao49, co49, eo49⟩ := Kd.R_slice HO_4.out
 subst eo49
 try go_wp2
 have n0_ := mkA (Kd.R_drew HO_4.out)
 have n1_ := mkA (blk_drew BK130.out)
 have n2_ := mkA (below_drew1 HB.out)
 clear HO_4 BK130 HB
 have HO_4 := n0_
 have BK130 := n1_
 have HB := n2_
 clear n0_ n1_ n2_
 have p137 : 0 ≤ (0 : Int) := (by omega)
 have q137 : 0 < (x4_2.length : Int) := odt
 obtain ⟨ad137, e137, hx137_0⟩ := Kd.at_string (Kd.R_reads' HO_4.out).2.2 0 p137 q137
 cases e137
 have qi137 : (0 < x4_2.length) = True := eq_true (by omega)
 (try rw [show ((0 : Int)).toNat = 0 from rfl] at hx137_0)
 (try rw [Addr.add_zero'] at hx137_0)
 replace p137 := eq_true p137
 replace q137 := eq_true q137
 have p139 : 0 ≤ (1 : Int) := (by omega)
 have q139 : 1 < (x4_2.length : Int) := odt
 obtain ⟨ad139, e139, hx139_0⟩ := Kd.at_string (Kd.R_reads' HO_4.out).2.2 1 p139 q139
 obtain rfl : ad137 = ad139 := (by injection e139)
 (try simp only [show (1 : Int).toNat = 1 from rfl, Nat.reduceMul, Nat.reduceEqDiff, Go.Addr.add, ↓reduceIte] at hx139_0)
 have qi139 : (1 < x4_2.length) = True := eq_true (by omega)
 (try rw [show ((1 : Int)).toNat = 1 from rfl] at hx139_0)
 replace p139 := eq_true p139
 replace q139 := eq_true q139
 have p141 : 0 ≤ (2 : Int) := (by omega)
 have q141 : 2 < (x4_2.length : Int) := odt
 obtain ⟨ad141, e141, hx141_0⟩ := Kd.at_string (Kd.R_reads' HO_4.out).2.2 2 p141 q141
 obtain rfl : ad137 = ad141 := (by injection e141)
 (try simp only [show (2 : Int).toNat = 2 from rfl, Nat.reduceMul, Nat.reduceEqDiff, Go.Addr.add, ↓reduceIte] at hx141_0)
 have qi141 : (2 < x4_2.length) = True := eq_true (by omega)
 (try rw [show ((2 : Int)).toNat = 2 from rfl] at hx141_0)
 replace p141 := eq_true p141
 replace q141 := eq_true q141
 refine start_ (n := 15) (S := fun w' => w'.cell? ad137 = some (.string (rdOf ByteArray.empty x4_2 0)) ∧ w'.cell? ⟨ad137.block, ad137.off + 1, none⟩ = some (.string (rdOf ByteArray.empty x4_2 1)) ∧ w'.cell? ⟨ad137.block, ad137.off + 2, none⟩ = some (.string (rdOf ByteArray.empty x4_2 2))) (ds := []) #[false, false, false, false, false, false, false, false, false, false, false, false, false, false, false] (by kernel_rfl) rfl rfl ⟨hx137_0, hx139_0, hx141_0⟩ (fun hHeld => ?_); refine with_tabW stamp_parseClock.tab6 stamp_parseClock.bits6 (fun HT_ HW_ => ?_)
 generalize wc.drew = w50 at HO_4 BK130 HB hx137_0 hx139_0 hx141_0 hHeld ⊢
 refine pu 0 18 HT_ ?_
 refine pu 1 19 HT_ ?_
 refine pu 4 22 HT_ ?_
 refine pu 5 23 HT_ ?_
 refine pu 8 26 HT_ ?_
 refine pu 9 27 HT_ ?_
 refine tk 2 20 HT_ HW_ hHeld ?_
 refine tk 6 24 HT_ HW_ hHeld ?_
 refine tk 10 28 HT_ HW_ hHeld ?_
 refine join_ (σ := Nat) 1 #[true, true, true, true, true, true, true, true, true, true, true, true, true, true, false] (fun s_ => [(21, .int .i64 t138), (25, .int .i64 t140), (29, .int .i64 t142), (5, .pointer (some ⟨s_, 0, none⟩)), (30, .agg #[.int .i64 t138, .int .i64 t140, .int .i64 t142])]) (fun s_ w' => (w'.cell? ad137 = some (.string (rdOf ByteArray.empty x4_2 0)) ∧ w'.cell? ⟨ad137.block, ad137.off + 1, none⟩ = some (.string (rdOf ByteArray.empty x4_2 1)) ∧ w'.cell? ⟨ad137.block, ad137.off + 2, none⟩ = some (.string (rdOf ByteArray.empty x4_2 2))) ∧ (Kd.R Kd.string 9 w' w.heap.size (fun _ => True) (.slice (some ad137) x4_2.length co49) x4_2) ∧ (w'.heap[gb130]? = some (.cells #[.int .i64 0, .int .i64 0, .int .i64 0] 45 (0, 0))) ∧ (w'.heap[s_]? = some (.cells #[.int .i64 0, .int .i64 0, .int .i64 0] 45 (0, 0))) ∧ (w.heap.size ≤ s_) ∧ (w.heap.size ≤ s_) ∧ (gb130 ≠ s_) ∧ (s_ ≠ gb130) ∧ (Below w.heap.size w w')) ?_ ?_
 rotate_left
 ·intro hCont
  refine two_ (i := 3) (j := 13) (Ni := some 21) (Nj := some 5) #[true, true, true, true, true, true, true, false, true, true, true, false, false, false, false] #[true, true, true, false, true, true, true, false, true, true, true, false, false, true, false] rfl rfl rfl rfl (two_of HT_.out (by kernel_rfl)) (by decide) (by decide) (fun K hK => ?_) (fun K hK => ?_)
  ·skip
   refine goes_ Tryd.func35 (by kernel_rfl) rfl #[.string (rdOf ByteArray.empty x4_2 0), .int .i64 2, .int .i64 2] (by rfl) rfl rfl ca ?_
   with_reducible refine (stamp_digits.calls kj2 (rdOf ByteArray.empty x4_2 0) 2 2 t138 _ A12.out).mono ?_
   rintro e w51 ⟨rfl, hb⟩
   have hbk_w51 := mkA hb
   have HS0_ := (hb.cell (World.block_lt_of_cell? _ _ (hHeld.1))).trans (hHeld.1)
   have HS1_ := (hb.cell (World.block_lt_of_cell? _ _ (hHeld.2.1))).trans (hHeld.2.1)
   have HS2_ := (hb.cell (World.block_lt_of_cell? _ _ (hHeld.2.2))).trans (hHeld.2.2)
   refine ⟨_, rfl, ?_⟩
   have n0_ := mkA (Kd.R_below (Kd.R_y HO_4.out) hb)
   have n1_ := mkA (blk_below (blk_y BK130.out) hb)
   have n2_ := mkA (below_step (below_y HB.out) hb)
   clear HO_4 BK130 HB
   have HO_4 := n0_
   have BK130 := n1_
   have HB := n2_
   clear n0_ n1_ n2_
   (try clear hb)
   (try clear hb2)
   (try clear hk)
   (try clear hi)
   refine hK.out _ _ ⟨HS0_, HS1_, HS2_⟩ (fun hHeld => ?_)
   clear hK K
   refine norm_ (a' := ?_) ?_ ?_
   rotate_left
   ·show Act.put _ (some 21) _ = _
    simp only [Act.put, sA, s0, sS, i64_w, i32_w]
    rfl
   refine two_ (i := 7) (j := 13) (Ni := some 25) (Nj := some 5) #[true, true, true, true, true, true, true, true, true, true, true, false, false, false, false] #[true, true, true, true, true, true, true, false, true, true, true, false, false, true, false] rfl rfl rfl rfl (two_of HT_.out (by kernel_rfl)) (by decide) (by decide) (fun K hK => ?_) (fun K hK => ?_)
   ·skip
    refine goes_ Tryd.func35 (by kernel_rfl) rfl #[.string (rdOf ByteArray.empty x4_2 1), .int .i64 2, .int .i64 2] (by rfl) rfl rfl ca ?_
    with_reducible refine (stamp_digits.calls kj2 (rdOf ByteArray.empty x4_2 1) 2 2 t140 _ A14.out).mono ?_
    rintro e w52 ⟨rfl, hb⟩
    have hbk_w52 := mkA hb
    have HS0_ := (hb.cell (World.block_lt_of_cell? _ _ (hHeld.1))).trans (hHeld.1)
    have HS1_ := (hb.cell (World.block_lt_of_cell? _ _ (hHeld.2.1))).trans (hHeld.2.1)
    have HS2_ := (hb.cell (World.block_lt_of_cell? _ _ (hHeld.2.2))).trans (hHeld.2.2)
    refine ⟨_, rfl, ?_⟩
    have n0_ := mkA (Kd.R_below (Kd.R_y HO_4.out) hb)
    have n1_ := mkA (blk_below (blk_y BK130.out) hb)
    have n2_ := mkA (below_step (below_y HB.out) hb)
    clear HO_4 BK130 HB
    have HO_4 := n0_
    have BK130 := n1_
    have HB := n2_
    clear n0_ n1_ n2_
    (try clear hb)
    (try clear hb2)
    (try clear hk)
    (try clear hi)
    refine hK.out _ _ ⟨HS0_, HS1_, HS2_⟩ (fun hHeld => ?_)
    clear hK K
    refine norm_ (a' := ?_) ?_ ?_
    rotate_left
    ·show Act.put _ (some 25) _ = _
     simp only [Act.put, sA, s0, sS, i64_w, i32_w]
     rfl
    refine two_ (i := 11) (j := 13) (Ni := some 29) (Nj := some 5) #[true, true, true, true, true, true, true, true, true, true, true, true, false, false, false] #[true, true, true, true, true, true, true, true, true, true, true, false, false, true, false] rfl rfl rfl rfl (two_of HT_.out (by kernel_rfl)) (by decide) (by decide) (fun K hK => ?_) (fun K hK => ?_)
    ·skip
     refine goes_ Tryd.func35 (by kernel_rfl) rfl #[.string (rdOf ByteArray.empty x4_2 2), .int .i64 2, .int .i64 2] (by rfl) rfl rfl ca ?_
     with_reducible refine (stamp_digits.calls kj2 (rdOf ByteArray.empty x4_2 2) 2 2 t142 _ A16.out).mono ?_
     rintro e w53 ⟨rfl, hb⟩
     have hbk_w53 := mkA hb
     have HS0_ := (hb.cell (World.block_lt_of_cell? _ _ (hHeld.1))).trans (hHeld.1)
     have HS1_ := (hb.cell (World.block_lt_of_cell? _ _ (hHeld.2.1))).trans (hHeld.2.1)
     have HS2_ := (hb.cell (World.block_lt_of_cell? _ _ (hHeld.2.2))).trans (hHeld.2.2)
     refine ⟨_, rfl, ?_⟩
     have n0_ := mkA (Kd.R_below (Kd.R_y HO_4.out) hb)
     have n1_ := mkA (blk_below (blk_y BK130.out) hb)
     have n2_ := mkA (below_step (below_y HB.out) hb)
     clear HO_4 BK130 HB
     have HO_4 := n0_
     have BK130 := n1_
     have HB := n2_
     clear n0_ n1_ n2_
     (try clear hb)
     (try clear hb2)
     (try clear hk)
     (try clear hi)
     refine hK.out _ _ ⟨HS0_, HS1_, HS2_⟩ (fun hHeld => ?_)
     clear hK K
     refine norm_ (a' := ?_) ?_ ?_
     rotate_left
     ·show Act.put _ (some 29) _ = _
      simp only [Act.put, sA, s0, sS, i64_w, i32_w]
      rfl
     refine pu 12 30 HT_ ?_
     refine one_ (i := 13) (N := some 5) #[true, true, true, true, true, true, true, true, true, true, true, true, true, true, false] rfl rfl (one_of HT_.out (by kernel_rfl)) (by decide) (fun K hK => ?_)
     refine box_step ?hg (N := 5) ?hd (cs := #[.int .i64 0, .int .i64 0, .int .i64 0]) (t := 45) ?hr ?_; (case hd => rfl); (case hg => rfl); (case hr => first | (go_simp; done) | (go_simp; rfl))
     intro gb143 hg w54 hbox hb
     have HS0_ := (hb.cell (World.block_lt_of_cell? _ _ (hHeld.1))).trans (hHeld.1)
     have HS1_ := (hb.cell (World.block_lt_of_cell? _ _ (hHeld.2.1))).trans (hHeld.2.1)
     have HS2_ := (hb.cell (World.block_lt_of_cell? _ _ (hHeld.2.2))).trans (hHeld.2.2)
     have n0_ := mkA (Kd.R_below (Kd.R_y HO_4.out) hb)
     have n1_ := mkA (blk_below (blk_y BK130.out) hb)
     have n2_ := mkA (below_step (below_y HB.out) hb)
     have n3_ := mkA (hbox)
     have n4_ := mkA ((gz hg HB.out : w.heap.size ≤ gb143))
     have n5_ := mkA ((gz hg HB.out : w.heap.size ≤ gb143))
     have n6_ := mkA ((gn hg BK130.out : gb130 ≠ gb143))
     have n7_ := mkA ((gm hg BK130.out : gb143 ≠ gb130))
     clear HO_4 BK130 HB
     have HO_4 := n0_
     have BK130 := n1_
     have HB := n2_
     have BK143 := n3_
     have GW143 := n4_
     have GE143 := n5_
     have NB130_143 := n6_
     have NB143_130 := n7_
     clear n0_ n1_ n2_ n3_ n4_ n5_ n6_ n7_ hb hbox hg
     refine hK.out _ _ ⟨HS0_, HS1_, HS2_⟩ (fun hHeld => ?_)
     clear hK K
     refine norm_ (a' := ?_) ?_ ?_
     rotate_left
     ·show Act.put _ (some 5) _ = _
      simp only [Act.put, sA, s0, sS, i64_w, i32_w]
      rfl
     exact norm_ (by simp only [putAll, Act.put, sA, s0, sS]) (hCont (gb143) _ ⟨hHeld, (Kd.R_y HO_4.out), (blk_y BK130.out), (blk_y BK143.out), GW143.out, GE143.out, NB130_143.out, NB143_130.out, (below_y HB.out)⟩)
    ·skip
     refine box_step ?hg (N := 5) ?hd (cs := #[.int .i64 0, .int .i64 0, .int .i64 0]) (t := 45) ?hr ?_; (case hd => rfl); (case hg => rfl); (case hr => first | (go_simp; done) | (go_simp; rfl))
     intro gb143 hg w53 hbox hb
     have HS0_ := (hb.cell (World.block_lt_of_cell? _ _ (hHeld.1))).trans (hHeld.1)
     have HS1_ := (hb.cell (World.block_lt_of_cell? _ _ (hHeld.2.1))).trans (hHeld.2.1)
     have HS2_ := (hb.cell (World.block_lt_of_cell? _ _ (hHeld.2.2))).trans (hHeld.2.2)
     have n0_ := mkA (Kd.R_below (Kd.R_y HO_4.out) hb)
     have n1_ := mkA (blk_below (blk_y BK130.out) hb)
     have n2_ := mkA (below_step (below_y HB.out) hb)
     have n3_ := mkA (hbox)
     have n4_ := mkA ((gz hg HB.out : w.heap.size ≤ gb143))
     have n5_ := mkA ((gz hg HB.out : w.heap.size ≤ gb143))
     have n6_ := mkA ((gn hg BK130.out : gb130 ≠ gb143))
     have n7_ := mkA ((gm hg BK130.out : gb143 ≠ gb130))
     clear HO_4 BK130 HB
     have HO_4 := n0_
     have BK130 := n1_
     have HB := n2_
     have BK143 := n3_
     have GW143 := n4_
     have GE143 := n5_
     have NB130_143 := n6_
     have NB143_130 := n7_
     clear n0_ n1_ n2_ n3_ n4_ n5_ n6_ n7_ hb hbox hg
     refine hK.out _ _ ⟨HS0_, HS1_, HS2_⟩ (fun hHeld => ?_)
     clear hK K
     refine norm_ (a' := ?_) ?_ ?_
     rotate_left
     ·show Act.put _ (some 5) _ = _
      simp only [Act.put, sA, s0, sS, i64_w, i32_w]
      rfl
     refine one_ (i := 11) (N := some 29) #[true, true, true, true, true, true, true, true, true, true, true, true, false, true, false] rfl rfl (one_of HT_.out (by kernel_rfl)) (by decide) (fun K hK => ?_)
     refine goes_ Tryd.func35 (by kernel_rfl) rfl #[.string (rdOf ByteArray.empty x4_2 2), .int .i64 2, .int .i64 2] (by rfl) rfl rfl ca ?_
     with_reducible refine (stamp_digits.calls kj2 (rdOf ByteArray.empty x4_2 2) 2 2 t142 _ A16.out).mono ?_
     rintro e w54 ⟨rfl, hb⟩
     have hbk_w54 := mkA hb
     have HS0_ := (hb.cell (World.block_lt_of_cell? _ _ (hHeld.1))).trans (hHeld.1)
     have HS1_ := (hb.cell (World.block_lt_of_cell? _ _ (hHeld.2.1))).trans (hHeld.2.1)
     have HS2_ := (hb.cell (World.block_lt_of_cell? _ _ (hHeld.2.2))).trans (hHeld.2.2)
     refine ⟨_, rfl, ?_⟩
     have n0_ := mkA (Kd.R_below (Kd.R_y HO_4.out) hb)
     have n1_ := mkA (blk_below (blk_y BK130.out) hb)
     have n2_ := mkA (blk_below (blk_y BK143.out) hb)
     have n3_ := mkA (below_step (below_y HB.out) hb)
     clear HO_4 BK130 BK143 HB
     have HO_4 := n0_
     have BK130 := n1_
     have BK143 := n2_
     have HB := n3_
     clear n0_ n1_ n2_ n3_
     (try clear hb)
     (try clear hb2)
     (try clear hk)
     (try clear hi)
     refine hK.out _ _ ⟨HS0_, HS1_, HS2_⟩ (fun hHeld => ?_)
     clear hK K
     refine norm_ (a' := ?_) ?_ ?_
     rotate_left
     ·show Act.put _ (some 29) _ = _
      simp only [Act.put, sA, s0, sS, i64_w, i32_w]
      rfl
     refine pu 12 30 HT_ ?_
     exact norm_ (by simp only [putAll, Act.put, sA, s0, sS]) (hCont (gb143) _ ⟨hHeld, (Kd.R_y HO_4.out), (blk_y BK130.out), (blk_y BK143.out), GW143.out, GE143.out, NB130_143.out, NB143_130.out, (below_y HB.out)⟩)
   ·skip
    refine box_step ?hg (N := 5) ?hd (cs := #[.int .i64 0, .int .i64 0, .int .i64 0]) (t := 45) ?hr ?_; (case hd => rfl); (case hg => rfl); (case hr => first | (go_simp; done) | (go_simp; rfl))
    intro gb143 hg w52 hbox hb
    have HS0_ := (hb.cell (World.block_lt_of_cell? _ _ (hHeld.1))).trans (hHeld.1)
    have HS1_ := (hb.cell (World.block_lt_of_cell? _ _ (hHeld.2.1))).trans (hHeld.2.1)
    have HS2_ := (hb.cell (World.block_lt_of_cell? _ _ (hHeld.2.2))).trans (hHeld.2.2)
    have n0_ := mkA (Kd.R_below (Kd.R_y HO_4.out) hb)
    have n1_ := mkA (blk_below (blk_y BK130.out) hb)
    have n2_ := mkA (below_step (below_y HB.out) hb)
    have n3_ := mkA (hbox)
    have n4_ := mkA ((gz hg HB.out : w.heap.size ≤ gb143))
    have n5_ := mkA ((gz hg HB.out : w.heap.size ≤ gb143))
    have n6_ := mkA ((gn hg BK130.out : gb130 ≠ gb143))
    have n7_ := mkA ((gm hg BK130.out : gb143 ≠ gb130))
    clear HO_4 BK130 HB
    have HO_4 := n0_
    have BK130 := n1_
    have HB := n2_
    have BK143 := n3_
    have GW143 := n4_
    have GE143 := n5_
    have NB130_143 := n6_
    have NB143_130 := n7_
    clear n0_ n1_ n2_ n3_ n4_ n5_ n6_ n7_ hb hbox hg
    refine hK.out _ _ ⟨HS0_, HS1_, HS2_⟩ (fun hHeld => ?_)
    clear hK K
    refine norm_ (a' := ?_) ?_ ?_
    rotate_left
    ·show Act.put _ (some 5) _ = _
     simp only [Act.put, sA, s0, sS, i64_w, i32_w]
     rfl
    refine one_ (i := 7) (N := some 25) #[true, true, true, true, true, true, true, true, true, true, true, false, false, true, false] rfl rfl (one_of HT_.out (by kernel_rfl)) (by decide) (fun K hK => ?_)
    refine goes_ Tryd.func35 (by kernel_rfl) rfl #[.string (rdOf ByteArray.empty x4_2 1), .int .i64 2, .int .i64 2] (by rfl) rfl rfl ca ?_
    with_reducible refine (stamp_digits.calls kj2 (rdOf ByteArray.empty x4_2 1) 2 2 t140 _ A14.out).mono ?_
    rintro e w53 ⟨rfl, hb⟩
    have hbk_w53 := mkA hb
    have HS0_ := (hb.cell (World.block_lt_of_cell? _ _ (hHeld.1))).trans (hHeld.1)
    have HS1_ := (hb.cell (World.block_lt_of_cell? _ _ (hHeld.2.1))).trans (hHeld.2.1)
    have HS2_ := (hb.cell (World.block_lt_of_cell? _ _ (hHeld.2.2))).trans (hHeld.2.2)
    refine ⟨_, rfl, ?_⟩
    have n0_ := mkA (Kd.R_below (Kd.R_y HO_4.out) hb)
    have n1_ := mkA (blk_below (blk_y BK130.out) hb)
    have n2_ := mkA (blk_below (blk_y BK143.out) hb)
    have n3_ := mkA (below_step (below_y HB.out) hb)
    clear HO_4 BK130 BK143 HB
    have HO_4 := n0_
    have BK130 := n1_
    have BK143 := n2_
    have HB := n3_
    clear n0_ n1_ n2_ n3_
    (try clear hb)
    (try clear hb2)
    (try clear hk)
    (try clear hi)
    refine hK.out _ _ ⟨HS0_, HS1_, HS2_⟩ (fun hHeld => ?_)
    clear hK K
    refine norm_ (a' := ?_) ?_ ?_
    rotate_left
    ·show Act.put _ (some 25) _ = _
     simp only [Act.put, sA, s0, sS, i64_w, i32_w]
     rfl
    refine one_ (i := 11) (N := some 29) #[true, true, true, true, true, true, true, true, true, true, true, true, false, true, false] rfl rfl (one_of HT_.out (by kernel_rfl)) (by decide) (fun K hK => ?_)
    refine goes_ Tryd.func35 (by kernel_rfl) rfl #[.string (rdOf ByteArray.empty x4_2 2), .int .i64 2, .int .i64 2] (by rfl) rfl rfl ca ?_
    with_reducible refine (stamp_digits.calls kj2 (rdOf ByteArray.empty x4_2 2) 2 2 t142 _ A16.out).mono ?_
    rintro e w54 ⟨rfl, hb⟩
    have hbk_w54 := mkA hb
    have HS0_ := (hb.cell (World.block_lt_of_cell? _ _ (hHeld.1))).trans (hHeld.1)
    have HS1_ := (hb.cell (World.block_lt_of_cell? _ _ (hHeld.2.1))).trans (hHeld.2.1)
    have HS2_ := (hb.cell (World.block_lt_of_cell? _ _ (hHeld.2.2))).trans (hHeld.2.2)
    refine ⟨_, rfl, ?_⟩
    have n0_ := mkA (Kd.R_below (Kd.R_y HO_4.out) hb)
    have n1_ := mkA (blk_below (blk_y BK130.out) hb)
    have n2_ := mkA (blk_below (blk_y BK143.out) hb)
    have n3_ := mkA (below_step (below_y HB.out) hb)
    clear HO_4 BK130 BK143 HB
    have HO_4 := n0_
    have BK130 := n1_
    have BK143 := n2_
    have HB := n3_
    clear n0_ n1_ n2_ n3_
    (try clear hb)
    (try clear hb2)
    (try clear hk)
    (try clear hi)
    refine hK.out _ _ ⟨HS0_, HS1_, HS2_⟩ (fun hHeld => ?_)
    clear hK K
    refine norm_ (a' := ?_) ?_ ?_
    rotate_left
    ·show Act.put _ (some 29) _ = _
     simp only [Act.put, sA, s0, sS, i64_w, i32_w]
     rfl
    refine pu 12 30 HT_ ?_
    exact norm_ (by simp only [putAll, Act.put, sA, s0, sS]) (hCont (gb143) _ ⟨hHeld, (Kd.R_y HO_4.out), (blk_y BK130.out), (blk_y BK143.out), GW143.out, GE143.out, NB130_143.out, NB143_130.out, (below_y HB.out)⟩)
  ·skip
   refine box_step ?hg (N := 5) ?hd (cs := #[.int .i64 0, .int .i64 0, .int .i64 0]) (t := 45) ?hr ?_; (case hd => rfl); (case hg => rfl); (case hr => first | (go_simp; done) | (go_simp; rfl))
   intro gb143 hg w51 hbox hb
   have HS0_ := (hb.cell (World.block_lt_of_cell? _ _ (hHeld.1))).trans (hHeld.1)
   have HS1_ := (hb.cell (World.block_lt_of_cell? _ _ (hHeld.2.1))).trans (hHeld.2.1)
   have HS2_ := (hb.cell (World.block_lt_of_cell? _ _ (hHeld.2.2))).trans (hHeld.2.2)
   have n0_ := mkA (Kd.R_below (Kd.R_y HO_4.out) hb)
   have n1_ := mkA (blk_below (blk_y BK130.out) hb)
   have n2_ := mkA (below_step (below_y HB.out) hb)
   have n3_ := mkA (hbox)
   have n4_ := mkA ((gz hg HB.out : w.heap.size ≤ gb143))
   have n5_ := mkA ((gz hg HB.out : w.heap.size ≤ gb143))
   have n6_ := mkA ((gn hg BK130.out : gb130 ≠ gb143))
   have n7_ := mkA ((gm hg BK130.out : gb143 ≠ gb130))
   clear HO_4 BK130 HB
   have HO_4 := n0_
   have BK130 := n1_
   have HB := n2_
   have BK143 := n3_
   have GW143 := n4_
   have GE143 := n5_
   have NB130_143 := n6_
   have NB143_130 := n7_
   clear n0_ n1_ n2_ n3_ n4_ n5_ n6_ n7_ hb hbox hg
   refine hK.out _ _ ⟨HS0_, HS1_, HS2_⟩ (fun hHeld => ?_)
   clear hK K
   refine norm_ (a' := ?_) ?_ ?_
   rotate_left
   ·show Act.put _ (some 5) _ = _
    simp only [Act.put, sA, s0, sS, i64_w, i32_w]
    rfl
   refine one_ (i := 3) (N := some 21) #[true, true, true, true, true, true, true, false, true, true, true, false, false, true, false] rfl rfl (one_of HT_.out (by kernel_rfl)) (by decide) (fun K hK => ?_)
   refine goes_ Tryd.func35 (by kernel_rfl) rfl #[.string (rdOf ByteArray.empty x4_2 0), .int .i64 2, .int .i64 2] (by rfl) rfl rfl ca ?_
   with_reducible refine (stamp_digits.calls kj2 (rdOf ByteArray.empty x4_2 0) 2 2 t138 _ A12.out).mono ?_
   rintro e w52 ⟨rfl, hb⟩
   have hbk_w52 := mkA hb
   have HS0_ := (hb.cell (World.block_lt_of_cell? _ _ (hHeld.1))).trans (hHeld.1)
   have HS1_ := (hb.cell (World.block_lt_of_cell? _ _ (hHeld.2.1))).trans (hHeld.2.1)
   have HS2_ := (hb.cell (World.block_lt_of_cell? _ _ (hHeld.2.2))).trans (hHeld.2.2)
   refine ⟨_, rfl, ?_⟩
   have n0_ := mkA (Kd.R_below (Kd.R_y HO_4.out) hb)
   have n1_ := mkA (blk_below (blk_y BK130.out) hb)
   have n2_ := mkA (blk_below (blk_y BK143.out) hb)
   have n3_ := mkA (below_step (below_y HB.out) hb)
   clear HO_4 BK130 BK143 HB
   have HO_4 := n0_
   have BK130 := n1_
   have BK143 := n2_
   have HB := n3_
   clear n0_ n1_ n2_ n3_
   (try clear hb)
   (try clear hb2)
   (try clear hk)
   (try clear hi)
   refine hK.out _ _ ⟨HS0_, HS1_, HS2_⟩ (fun hHeld => ?_)
   clear hK K
   refine norm_ (a' := ?_) ?_ ?_
   rotate_left
   ·show Act.put _ (some 21) _ = _
    simp only [Act.put, sA, s0, sS, i64_w, i32_w]
    rfl
   refine one_ (i := 7) (N := some 25) #[true, true, true, true, true, true, true, true, true, true, true, false, false, true, false] rfl rfl (one_of HT_.out (by kernel_rfl)) (by decide) (fun K hK => ?_)
   refine goes_ Tryd.func35 (by kernel_rfl) rfl #[.string (rdOf ByteArray.empty x4_2 1), .int .i64 2, .int .i64 2] (by rfl) rfl rfl ca ?_
   with_reducible refine (stamp_digits.calls kj2 (rdOf ByteArray.empty x4_2 1) 2 2 t140 _ A14.out).mono ?_
   rintro e w53 ⟨rfl, hb⟩
   have hbk_w53 := mkA hb
   have HS0_ := (hb.cell (World.block_lt_of_cell? _ _ (hHeld.1))).trans (hHeld.1)
   have HS1_ := (hb.cell (World.block_lt_of_cell? _ _ (hHeld.2.1))).trans (hHeld.2.1)
   have HS2_ := (hb.cell (World.block_lt_of_cell? _ _ (hHeld.2.2))).trans (hHeld.2.2)
   refine ⟨_, rfl, ?_⟩
   have n0_ := mkA (Kd.R_below (Kd.R_y HO_4.out) hb)
   have n1_ := mkA (blk_below (blk_y BK130.out) hb)
   have n2_ := mkA (blk_below (blk_y BK143.out) hb)
   have n3_ := mkA (below_step (below_y HB.out) hb)
   clear HO_4 BK130 BK143 HB
   have HO_4 := n0_
   have BK130 := n1_
   have BK143 := n2_
   have HB := n3_
   clear n0_ n1_ n2_ n3_
   (try clear hb)
   (try clear hb2)
   (try clear hk)
   (try clear hi)
   refine hK.out _ _ ⟨HS0_, HS1_, HS2_⟩ (fun hHeld => ?_)
   clear hK K
   refine norm_ (a' := ?_) ?_ ?_
   rotate_left
   ·show Act.put _ (some 25) _ = _
    simp only [Act.put, sA, s0, sS, i64_w, i32_w]
    rfl
   refine one_ (i := 11) (N := some 29) #[true, true, true, true, true, true, true, true, true, true, true, true, false, true, false] rfl rfl (one_of HT_.out (by kernel_rfl)) (by decide) (fun K hK => ?_)
   refine goes_ Tryd.func35 (by kernel_rfl) rfl #[.string (rdOf ByteArray.empty x4_2 2), .int .i64 2, .int .i64 2] (by rfl) rfl rfl ca ?_
   with_reducible refine (stamp_digits.calls kj2 (rdOf ByteArray.empty x4_2 2) 2 2 t142 _ A16.out).mono ?_
   rintro e w54 ⟨rfl, hb⟩
   have hbk_w54 := mkA hb
   have HS0_ := (hb.cell (World.block_lt_of_cell? _ _ (hHeld.1))).trans (hHeld.1)
   have HS1_ := (hb.cell (World.block_lt_of_cell? _ _ (hHeld.2.1))).trans (hHeld.2.1)
   have HS2_ := (hb.cell (World.block_lt_of_cell? _ _ (hHeld.2.2))).trans (hHeld.2.2)
   refine ⟨_, rfl, ?_⟩
   have n0_ := mkA (Kd.R_below (Kd.R_y HO_4.out) hb)
   have n1_ := mkA (blk_below (blk_y BK130.out) hb)
   have n2_ := mkA (blk_below (blk_y BK143.out) hb)
   have n3_ := mkA (below_step (below_y HB.out) hb)
   clear HO_4 BK130 BK143 HB
   have HO_4 := n0_
   have BK130 := n1_
   have BK143 := n2_
   have HB := n3_
   clear n0_ n1_ n2_ n3_
   (try clear hb)
   (try clear hb2)
   (try clear hk)
   (try clear hi)
   refine hK.out _ _ ⟨HS0_, HS1_, HS2_⟩ (fun hHeld => ?_)
   clear hK K
   refine norm_ (a' := ?_) ?_ ?_
   rotate_left
   ·show Act.put _ (some 29) _ = _
    simp only [Act.put, sA, s0, sS, i64_w, i32_w]
    rfl
   refine pu 12 30 HT_ ?_
   exact norm_ (by simp only [putAll, Act.put, sA, s0, sS]) (hCont (gb143) _ ⟨hHeld, (Kd.R_y HO_4.out), (blk_y BK130.out), (blk_y BK143.out), GW143.out, GE143.out, NB130_143.out, NB143_130.out, (below_y HB.out)⟩)
 rintro gb143 w55 ⟨hS_, h0_, h1_, h2_, h3_, h4_, h5_, h6_, h7_⟩
 have n0_ : Aside0 (Kd.R Kd.string 9 w55 w.heap.size (fun _ => True) (.slice (some ad137) x4_2.length co49) x4_2) := ⟨h0_⟩
 have n1_ : Aside0 (w55.heap[gb130]? = some (.cells #[.int .i64 0, .int .i64 0, .int .i64 0] 45 (0, 0))) := ⟨h1_⟩
 have n2_ : Aside0 (w55.heap[gb143]? = some (.cells #[.int .i64 0, .int .i64 0, .int .i64 0] 45 (0, 0))) := ⟨h2_⟩
 have n3_ : Aside0 (w.heap.size ≤ gb143) := ⟨h3_⟩
 have n4_ : Aside0 (w.heap.size ≤ gb143) := ⟨h4_⟩
 have n5_ : Aside0 (gb130 ≠ gb143) := ⟨h5_⟩
 have n6_ : Aside0 (gb143 ≠ gb130) := ⟨h6_⟩
 have n7_ : Aside0 (Below w.heap.size w w55) := ⟨h7_⟩
 clear HO_4 BK130 HB h0_ h1_ h2_ h3_ h4_ h5_ h6_ h7_
 have HO_4 := n0_
 have BK130 := n1_
 have BK143 := n2_
 have GW143 := n3_
 have GE143 := n4_
 have NB130_143 := n5_
 have NB143_130 := n6_
 have HB := n7_
 clear n0_ n1_ n2_ n3_ n4_ n5_ n6_ n7_
 have hHeld : w55.cell? ad137 = some (.string (rdOf ByteArray.empty x4_2 0)) ∧ w55.cell? ⟨ad137.block, ad137.off + 1, none⟩ = some (.string (rdOf ByteArray.empty x4_2 1)) ∧ w55.cell? ⟨ad137.block, ad137.off + 2, none⟩ = some (.string (rdOf ByteArray.empty x4_2 2)) := hS_
 refine norm_ (a' := ?_) ?_ ?_
 rotate_left
 ·simp only [putAll, Act.put, sA, s0, sS]
  rfl
 refine one_ (i := 14) (N := none) #[true, true, true, true, true, true, true, true, true, true, true, true, true, true, true] rfl rfl (one_of HT_.out (by kernel_rfl)) (by decide) (fun K hK => ?_)
 have hs56 : w55.cell? ⟨gb143, 0, none⟩ = some (.int .i64 0) := (blk_cell BK143.out 0).trans rfl
 have hfs56 := blk_frozen BK143.out 0
 have hns56_0 := NB130_143.out
 have hms56_0 := NB143_130.out
 have hs57 : w55.cell? ⟨gb143, 1, none⟩ = some (.int .i64 0) := (blk_cell BK143.out 1).trans rfl
 have hfs57 := blk_frozen BK143.out 1
 have hns57_0 := NB130_143.out
 have hms57_0 := NB143_130.out
 have hs58 : w55.cell? ⟨gb143, 2, none⟩ = some (.int .i64 0) := (blk_cell BK143.out 2).trans rfl
 have hfs58 := blk_frozen BK143.out 2
 have hns58_0 := NB130_143.out
 have hms58_0 := NB143_130.out
 refine skip_ (w1 := ?_) (by rfl) rfl ?_ ?_
 rotate_left
 ·go_simp
  rfl
 refine hK.out _ _ ⟨((by have hx := Kd.own_blk (Kd.R_ne HO_4.out BK143.out (by decide)); exact fS hx (fS hx (fS hx (hHeld.1))))), ((by have hx := Kd.own_blk (Kd.R_ne HO_4.out BK143.out (by decide)); exact fS hx (fS hx (fS hx (hHeld.2.1))))), ((by have hx := Kd.own_blk (Kd.R_ne HO_4.out BK143.out (by decide)); exact fS hx (fS hx (fS hx (hHeld.2.2)))))⟩ (fun hHeld => ?_)
 clear hK K
 refine done_ (done_of HT_.out (by kernel_rfl)) ?_
 by_cases c17 : t138 ≥ 0
 rotate_left
 ·rw [if_neg c17] at H
  have c17b0 : decide (0 ≤ t138) = false := decide_eq_false c17
  (first | rw [c17b0] | (simp only [i64_w, i32_w]; rw [c17b0]) | skip)
  clear c17
  simp only [Option.some.injEq, Prod.mk.injEq] at H
  obtain ⟨rfl, rfl, rfl, rfl⟩ := H
  as_aux_lemma =>
   try go_wp2
   have n0_ : Aside0 (Kd.R Kd.string 9 (((w55.setCell ⟨gb143, 0, none⟩ (.int .i64 t138)).setCell ⟨gb143, 1, none⟩ (.int .i64 t140)).setCell ⟨gb143, 2, none⟩ (.int .i64 t142)) w.heap.size (fun _ => True) (.slice (some ad137) x4_2.length co49) x4_2) := ⟨by (with_reducible repeat (first | apply Kd.R_alloc | apply Kd.R_drewN | apply Kd.R_drew)); exact Kd.R_mono (Kd.R_far (p := ⟨gb143, 2, none⟩) (Kd.R_far (p := ⟨gb143, 1, none⟩) (Kd.R_far (p := ⟨gb143, 0, none⟩) (Kd.R_types HO_4.out BK143.out (by decide)) (fun _ hk => hk.2) (.int .i64 t138)) (fun _ hk => hk.2) (.int .i64 t140)) (fun _ hk => hk.2) (.int .i64 t142)) (fun _ hk => trivial)⟩
   have n1_ : Aside0 ((((w55.setCell ⟨gb143, 0, none⟩ (.int .i64 t138)).setCell ⟨gb143, 1, none⟩ (.int .i64 t140)).setCell ⟨gb143, 2, none⟩ (.int .i64 t142)).heap[gb130]? = some (.cells #[.int .i64 0, .int .i64 0, .int .i64 0] 45 (0, 0))) := ⟨by (iterate 3 ((with_reducible repeat (first | refine blk_drewN ?_ _ | refine blk_drew ?_ | refine blk_alloc ?_ _)); refine blk_far ?_ NB130_143.out _)); (with_reducible repeat (first | refine blk_drewN ?_ _ | refine blk_drew ?_ | refine blk_alloc ?_ _)); exact BK130.out⟩
   have n2_ : Aside0 ((((w55.setCell ⟨gb143, 0, none⟩ (.int .i64 t138)).setCell ⟨gb143, 1, none⟩ (.int .i64 t140)).setCell ⟨gb143, 2, none⟩ (.int .i64 t142)).heap[gb143]? = some (.cells #[.int .i64 t138, .int .i64 t140, .int .i64 t142] 45 (0, 0))) := ⟨by (with_reducible repeat (first | refine blk_drewN ?_ _ | refine blk_drew ?_ | refine blk_alloc ?_ _)); refine blk_put (cs := #[.int .i64 t138, .int .i64 t140, .int .i64 0]) ?_ 2 _ rfl; (with_reducible repeat (first | refine blk_drewN ?_ _ | refine blk_drew ?_ | refine blk_alloc ?_ _)); refine blk_put (cs := #[.int .i64 t138, .int .i64 0, .int .i64 0]) ?_ 1 _ rfl; (with_reducible repeat (first | refine blk_drewN ?_ _ | refine blk_drew ?_ | refine blk_alloc ?_ _)); refine blk_put (cs := #[.int .i64 0, .int .i64 0, .int .i64 0]) ?_ 0 _ rfl; (with_reducible repeat (first | refine blk_drewN ?_ _ | refine blk_drew ?_ | refine blk_alloc ?_ _)); exact BK143.out⟩
   have n3_ : Aside0 (Below w.heap.size w (((w55.setCell ⟨gb143, 0, none⟩ (.int .i64 t138)).setCell ⟨gb143, 1, none⟩ (.int .i64 t140)).setCell ⟨gb143, 2, none⟩ (.int .i64 t142))) := ⟨by repeat (first | (with_reducible first | exact HB.out | apply below_alloc | apply pw_below_drewN | apply below_drew1 | refine below_set ?_ GE130.out | refine below_set ?_ GE143.out) | exact HB.out)⟩
   (try clear HO_4)
   (try clear BK130)
   (try clear BK143)
   (try clear HB)
   generalize (((w55.setCell ⟨gb143, 0, none⟩ (.int .i64 t138)).setCell ⟨gb143, 1, none⟩ (.int .i64 t140)).setCell ⟨gb143, 2, none⟩ (.int .i64 t142)) = w59 at n0_ n1_ n2_ n3_ ⊢
   have HO_4 := n0_
   have BK130 := n1_
   have BK143 := n2_
   have HB := n3_
   clear n0_ n1_ n2_ n3_
   have n0_ := mkA (Kd.R_drew HO_4.out)
   have n1_ := mkA (blk_drew BK130.out)
   have n2_ := mkA (blk_drew BK143.out)
   have n3_ := mkA (below_drew1 HB.out)
   clear HO_4 BK130 BK143 HB
   have HO_4 := n0_
   have BK130 := n1_
   have BK143 := n2_
   have HB := n3_
   clear n0_ n1_ n2_ n3_
   refine start_ (n := 16) (S := fun w' => w'.cell? ⟨gb143, 0, none⟩ = some (.int .i64 t138) ∧ w'.cell? ⟨gb143, 1, none⟩ = some (.int .i64 t140) ∧ w'.cell? ⟨gb143, 2, none⟩ = some (.int .i64 t142)) (ds := []) #[false, false, false, false, false, false, false, false, false, false, false, false, false, false, false, false] (by kernel_rfl) rfl rfl ⟨(blk_cell BK143.out 0).trans rfl, (blk_cell BK143.out 1).trans rfl, (blk_cell BK143.out 2).trans rfl⟩ (fun hHeld => ?_); refine with_tabW stamp_parseClock.tab7 stamp_parseClock.bits7 (fun HT_ HW_ => ?_)
   generalize w59.drew = w60 at HO_4 BK130 BK143 HB hHeld ⊢
   refine pu 1 32 HT_ ?_
   refine tk 0 31 HT_ HW_ hHeld ?_
   refine tk 2 33 HT_ HW_ hHeld ?_
   refine pu 3 34 HT_ ?_
   refine pu 4 35 HT_ ?_
   refine pn 5 36 HT_ ?_
   refine pn 6 37 HT_ ?_
   refine pn 7 38 HT_ ?_
   refine pu 8 39 HT_ ?_
   refine pu 9 40 HT_ ?_
   refine pn 10 41 HT_ ?_
   refine pn 11 42 HT_ ?_
   refine pn 12 43 HT_ ?_
   refine pu 13 44 HT_ ?_
   refine one_ (i := 14) (N := none) #[true, true, true, true, true, true, true, true, true, true, true, true, true, true, true, false] rfl rfl (one_of HT_.out (by kernel_rfl)) (by decide) (fun K hK => ?_)
   have hs61 : w60.cell? ⟨gb130, 0, none⟩ = some (.int .i64 0) := (blk_cell BK130.out 0).trans rfl
   have hfs61 := blk_frozen BK130.out 0
   have hns61_1 := NB143_130.out
   have hms61_1 := NB130_143.out
   have hs62 : w60.cell? ⟨gb130, 1, none⟩ = some (.int .i64 0) := (blk_cell BK130.out 1).trans rfl
   have hfs62 := blk_frozen BK130.out 1
   have hns62_1 := NB143_130.out
   have hms62_1 := NB130_143.out
   have hs63 : w60.cell? ⟨gb130, 2, none⟩ = some (.int .i64 0) := (blk_cell BK130.out 2).trans rfl
   have hfs63 := blk_frozen BK130.out 2
   have hns63_1 := NB143_130.out
   have hms63_1 := NB130_143.out
   refine skip_ (w1 := ?_) (by rfl) rfl ?_ ?_
   rotate_left
   ·go_simp
    rfl
   refine hK.out _ _ ⟨((by have hx := NB143_130.out; exact fS hx (fS hx (fS hx (hHeld.1))))), ((by have hx := NB143_130.out; exact fS hx (fS hx (fS hx (hHeld.2.1))))), ((by have hx := NB143_130.out; exact fS hx (fS hx (fS hx (hHeld.2.2)))))⟩ (fun hHeld => ?_)
   clear hK K
   refine pu 15 3 HT_ ?_
   refine done_ (done_of HT_.out (by kernel_rfl)) ?_
   try go_wp2
   refine bodyPost_ret (results_ct rfl _ _ gb130 45 #[.int .i64 t138, .int .i64 t140, .int .i64 t142] (0, 0) _ rfl (by (with_reducible repeat (first | refine blk_drewN ?_ _ | refine blk_drew ?_ | refine blk_alloc ?_ _)); refine blk_put (cs := #[.int .i64 t138, .int .i64 t140, .int .i64 0]) ?_ 2 _ rfl; (with_reducible repeat (first | refine blk_drewN ?_ _ | refine blk_drew ?_ | refine blk_alloc ?_ _)); refine blk_put (cs := #[.int .i64 t138, .int .i64 0, .int .i64 0]) ?_ 1 _ rfl; (with_reducible repeat (first | refine blk_drewN ?_ _ | refine blk_drew ?_ | refine blk_alloc ?_ _)); refine blk_put (cs := #[.int .i64 0, .int .i64 0, .int .i64 0]) ?_ 0 _ rfl; (with_reducible repeat (first | refine blk_drewN ?_ _ | refine blk_drew ?_ | refine blk_alloc ?_ _)); exact BK130.out) Tryd.underlying45 rfl (by kernel_rfl)) rfl ?_
   exact ⟨by first | rfl | (simp [errW_none, errW_some] <;> rfl) | (simp [*, errW_none, errW_some] <;> rfl), by repeat (first | (with_reducible first | exact HB.out | apply below_alloc | apply pw_below_drewN | apply below_drew1 | refine below_set ?_ GE130.out | refine below_set ?_ GE143.out) | exact HB.out)⟩
 rw [if_pos c17] at H
 have c17b0 : decide (0 ≤ t138) = true := decide_eq_true c17
 (first | rw [c17b0] | (simp only [i64_w, i32_w]; rw [c17b0]) | skip)
 clear c17
 by_cases c18 : t140 ≥ 0
 rotate_left
 ·rw [if_neg c18] at H
  have c18b0 : decide (0 ≤ t140) = false := decide_eq_false c18
  (first | rw [c18b0] | (simp only [i64_w, i32_w]; rw [c18b0]) | skip)
  clear c18
  simp only [Option.some.injEq, Prod.mk.injEq] at H
  obtain ⟨rfl, rfl, rfl, rfl⟩ := H
  as_aux_lemma =>
   try go_wp2
   have n0_ : Aside0 (Kd.R Kd.string 9 (((w55.setCell ⟨gb143, 0, none⟩ (.int .i64 t138)).setCell ⟨gb143, 1, none⟩ (.int .i64 t140)).setCell ⟨gb143, 2, none⟩ (.int .i64 t142)) w.heap.size (fun _ => True) (.slice (some ad137) x4_2.length co49) x4_2) := ⟨by (with_reducible repeat (first | apply Kd.R_alloc | apply Kd.R_drewN | apply Kd.R_drew)); exact Kd.R_mono (Kd.R_far (p := ⟨gb143, 2, none⟩) (Kd.R_far (p := ⟨gb143, 1, none⟩) (Kd.R_far (p := ⟨gb143, 0, none⟩) (Kd.R_types HO_4.out BK143.out (by decide)) (fun _ hk => hk.2) (.int .i64 t138)) (fun _ hk => hk.2) (.int .i64 t140)) (fun _ hk => hk.2) (.int .i64 t142)) (fun _ hk => trivial)⟩
   have n1_ : Aside0 ((((w55.setCell ⟨gb143, 0, none⟩ (.int .i64 t138)).setCell ⟨gb143, 1, none⟩ (.int .i64 t140)).setCell ⟨gb143, 2, none⟩ (.int .i64 t142)).heap[gb130]? = some (.cells #[.int .i64 0, .int .i64 0, .int .i64 0] 45 (0, 0))) := ⟨by (iterate 3 ((with_reducible repeat (first | refine blk_drewN ?_ _ | refine blk_drew ?_ | refine blk_alloc ?_ _)); refine blk_far ?_ NB130_143.out _)); (with_reducible repeat (first | refine blk_drewN ?_ _ | refine blk_drew ?_ | refine blk_alloc ?_ _)); exact BK130.out⟩
   have n2_ : Aside0 ((((w55.setCell ⟨gb143, 0, none⟩ (.int .i64 t138)).setCell ⟨gb143, 1, none⟩ (.int .i64 t140)).setCell ⟨gb143, 2, none⟩ (.int .i64 t142)).heap[gb143]? = some (.cells #[.int .i64 t138, .int .i64 t140, .int .i64 t142] 45 (0, 0))) := ⟨by (with_reducible repeat (first | refine blk_drewN ?_ _ | refine blk_drew ?_ | refine blk_alloc ?_ _)); refine blk_put (cs := #[.int .i64 t138, .int .i64 t140, .int .i64 0]) ?_ 2 _ rfl; (with_reducible repeat (first | refine blk_drewN ?_ _ | refine blk_drew ?_ | refine blk_alloc ?_ _)); refine blk_put (cs := #[.int .i64 t138, .int .i64 0, .int .i64 0]) ?_ 1 _ rfl; (with_reducible repeat (first | refine blk_drewN ?_ _ | refine blk_drew ?_ | refine blk_alloc ?_ _)); refine blk_put (cs := #[.int .i64 0, .int .i64 0, .int .i64 0]) ?_ 0 _ rfl; (with_reducible repeat (first | refine blk_drewN ?_ _ | refine blk_drew ?_ | refine blk_alloc ?_ _)); exact BK143.out⟩
   have n3_ : Aside0 (Below w.heap.size w (((w55.setCell ⟨gb143, 0, none⟩ (.int .i64 t138)).setCell ⟨gb143, 1, none⟩ (.int .i64 t140)).setCell ⟨gb143, 2, none⟩ (.int .i64 t142))) := ⟨by repeat (first | (with_reducible first | exact HB.out | apply below_alloc | apply pw_below_drewN | apply below_drew1 | refine below_set ?_ GE130.out | refine below_set ?_ GE143.out) | exact HB.out)⟩
   (try clear HO_4)
   (try clear BK130)
   (try clear BK143)
   (try clear HB)
   generalize (((w55.setCell ⟨gb143, 0, none⟩ (.int .i64 t138)).setCell ⟨gb143, 1, none⟩ (.int .i64 t140)).setCell ⟨gb143, 2, none⟩ (.int .i64 t142)) = w44 at n0_ n1_ n2_ n3_ ⊢
   have HO_4 := n0_
   have BK130 := n1_
   have BK143 := n2_
   have HB := n3_
   clear n0_ n1_ n2_ n3_
   have n0_ := mkA (Kd.R_drew HO_4.out)
   have n1_ := mkA (blk_drew BK130.out)
   have n2_ := mkA (blk_drew BK143.out)
   have n3_ := mkA (below_drew1 HB.out)
   clear HO_4 BK130 BK143 HB
   have HO_4 := n0_
   have BK130 := n1_
   have BK143 := n2_
   have HB := n3_
   clear n0_ n1_ n2_ n3_
   refine start_ (n := 16) (S := fun w' => w'.cell? ⟨gb143, 0, none⟩ = some (.int .i64 t138) ∧ w'.cell? ⟨gb143, 1, none⟩ = some (.int .i64 t140) ∧ w'.cell? ⟨gb143, 2, none⟩ = some (.int .i64 t142)) (ds := []) #[false, false, false, false, false, false, false, false, false, false, false, false, false, false, false, false] (by kernel_rfl) rfl rfl ⟨(blk_cell BK143.out 0).trans rfl, (blk_cell BK143.out 1).trans rfl, (blk_cell BK143.out 2).trans rfl⟩ (fun hHeld => ?_); refine with_tabW stamp_parseClock.tab7 stamp_parseClock.bits7 (fun HT_ HW_ => ?_)
   generalize w44.drew = w45 at HO_4 BK130 BK143 HB hHeld ⊢
   refine pu 1 32 HT_ ?_
   refine tk 0 31 HT_ HW_ hHeld ?_
   refine tk 2 33 HT_ HW_ hHeld ?_
   refine pu 3 34 HT_ ?_
   refine pu 4 35 HT_ ?_
   refine pu 5 36 HT_ ?_
   refine tk 6 37 HT_ HW_ hHeld ?_
   refine pu 7 38 HT_ ?_
   refine pu 8 39 HT_ ?_
   refine pu 9 40 HT_ ?_
   refine pn 10 41 HT_ ?_
   refine pn 11 42 HT_ ?_
   refine pn 12 43 HT_ ?_
   refine pu 13 44 HT_ ?_
   refine one_ (i := 14) (N := none) #[true, true, true, true, true, true, true, true, true, true, true, true, true, true, true, false] rfl rfl (one_of HT_.out (by kernel_rfl)) (by decide) (fun K hK => ?_)
   have hs46 : w45.cell? ⟨gb130, 0, none⟩ = some (.int .i64 0) := (blk_cell BK130.out 0).trans rfl
   have hfs46 := blk_frozen BK130.out 0
   have hns46_1 := NB143_130.out
   have hms46_1 := NB130_143.out
   have hs47 : w45.cell? ⟨gb130, 1, none⟩ = some (.int .i64 0) := (blk_cell BK130.out 1).trans rfl
   have hfs47 := blk_frozen BK130.out 1
   have hns47_1 := NB143_130.out
   have hms47_1 := NB130_143.out
   have hs48 : w45.cell? ⟨gb130, 2, none⟩ = some (.int .i64 0) := (blk_cell BK130.out 2).trans rfl
   have hfs48 := blk_frozen BK130.out 2
   have hns48_1 := NB143_130.out
   have hms48_1 := NB130_143.out
   refine skip_ (w1 := ?_) (by rfl) rfl ?_ ?_
   rotate_left
   ·go_simp
    rfl
   refine hK.out _ _ ⟨((by have hx := NB143_130.out; exact fS hx (fS hx (fS hx (hHeld.1))))), ((by have hx := NB143_130.out; exact fS hx (fS hx (fS hx (hHeld.2.1))))), ((by have hx := NB143_130.out; exact fS hx (fS hx (fS hx (hHeld.2.2)))))⟩ (fun hHeld => ?_)
   clear hK K
   refine pu 15 3 HT_ ?_
   refine done_ (done_of HT_.out (by kernel_rfl)) ?_
   try go_wp2
   refine bodyPost_ret (results_ct rfl _ _ gb130 45 #[.int .i64 t138, .int .i64 t140, .int .i64 t142] (0, 0) _ rfl (by (with_reducible repeat (first | refine blk_drewN ?_ _ | refine blk_drew ?_ | refine blk_alloc ?_ _)); refine blk_put (cs := #[.int .i64 t138, .int .i64 t140, .int .i64 0]) ?_ 2 _ rfl; (with_reducible repeat (first | refine blk_drewN ?_ _ | refine blk_drew ?_ | refine blk_alloc ?_ _)); refine blk_put (cs := #[.int .i64 t138, .int .i64 0, .int .i64 0]) ?_ 1 _ rfl; (with_reducible repeat (first | refine blk_drewN ?_ _ | refine blk_drew ?_ | refine blk_alloc ?_ _)); refine blk_put (cs := #[.int .i64 0, .int .i64 0, .int .i64 0]) ?_ 0 _ rfl; (with_reducible repeat (first | refine blk_drewN ?_ _ | refine blk_drew ?_ | refine blk_alloc ?_ _)); exact BK130.out) Tryd.underlying45 rfl (by kernel_rfl)) rfl ?_
   exact ⟨by first | rfl | (simp [errW_none, errW_some] <;> rfl) | (simp [*, errW_none, errW_some] <;> rfl), by repeat (first | (with_reducible first | exact HB.out | apply below_alloc | apply pw_below_drewN | apply below_drew1 | refine below_set ?_ GE130.out | refine below_set ?_ GE143.out) | exact HB.out)⟩
 rw [if_pos c18] at H
 have c18b0 : decide (0 ≤ t140) = true := decide_eq_true c18
 (first | rw [c18b0] | (simp only [i64_w, i32_w]; rw [c18b0]) | skip)
 clear c18
 simp only [Option.some.injEq, Prod.mk.injEq] at H
 obtain ⟨rfl, rfl, rfl, rfl⟩ := H
 as_aux_lemma =>
  try go_wp2
  have n0_ : Aside0 (Kd.R Kd.string 9 (((w55.setCell ⟨gb143, 0, none⟩ (.int .i64 t138)).setCell ⟨gb143, 1, none⟩ (.int .i64 t140)).setCell ⟨gb143, 2, none⟩ (.int .i64 t142)) w.heap.size (fun _ => True) (.slice (some ad137) x4_2.length co49) x4_2) := ⟨by (with_reducible repeat (first | apply Kd.R_alloc | apply Kd.R_drewN | apply Kd.R_drew)); exact Kd.R_mono (Kd.R_far (p := ⟨gb143, 2, none⟩) (Kd.R_far (p := ⟨gb143, 1, none⟩) (Kd.R_far (p := ⟨gb143, 0, none⟩) (Kd.R_types HO_4.out BK143.out (by decide)) (fun _ hk => hk.2) (.int .i64 t138)) (fun _ hk => hk.2) (.int .i64 t140)) (fun _ hk => hk.2) (.int .i64 t142)) (fun _ hk => trivial)⟩
  have n1_ : Aside0 ((((w55.setCell ⟨gb143, 0, none⟩ (.int .i64 t138)).setCell ⟨gb143, 1, none⟩ (.int .i64 t140)).setCell ⟨gb143, 2, none⟩ (.int .i64 t142)).heap[gb130]? = some (.cells #[.int .i64 0, .int .i64 0, .int .i64 0] 45 (0, 0))) := ⟨by (iterate 3 ((with_reducible repeat (first | refine blk_drewN ?_ _ | refine blk_drew ?_ | refine blk_alloc ?_ _)); refine blk_far ?_ NB130_143.out _)); (with_reducible repeat (first | refine blk_drewN ?_ _ | refine blk_drew ?_ | refine blk_alloc ?_ _)); exact BK130.out⟩
  have n2_ : Aside0 ((((w55.setCell ⟨gb143, 0, none⟩ (.int .i64 t138)).setCell ⟨gb143, 1, none⟩ (.int .i64 t140)).setCell ⟨gb143, 2, none⟩ (.int .i64 t142)).heap[gb143]? = some (.cells #[.int .i64 t138, .int .i64 t140, .int .i64 t142] 45 (0, 0))) := ⟨by (with_reducible repeat (first | refine blk_drewN ?_ _ | refine blk_drew ?_ | refine blk_alloc ?_ _)); refine blk_put (cs := #[.int .i64 t138, .int .i64 t140, .int .i64 0]) ?_ 2 _ rfl; (with_reducible repeat (first | refine blk_drewN ?_ _ | refine blk_drew ?_ | refine blk_alloc ?_ _)); refine blk_put (cs := #[.int .i64 t138, .int .i64 0, .int .i64 0]) ?_ 1 _ rfl; (with_reducible repeat (first | refine blk_drewN ?_ _ | refine blk_drew ?_ | refine blk_alloc ?_ _)); refine blk_put (cs := #[.int .i64 0, .int .i64 0, .int .i64 0]) ?_ 0 _ rfl; (with_reducible repeat (first | refine blk_drewN ?_ _ | refine blk_drew ?_ | refine blk_alloc ?_ _)); exact BK143.out⟩
  have n3_ : Aside0 (Below w.heap.size w (((w55.setCell ⟨gb143, 0, none⟩ (.int .i64 t138)).setCell ⟨gb143, 1, none⟩ (.int .i64 t140)).setCell ⟨gb143, 2, none⟩ (.int .i64 t142))) := ⟨by repeat (first | (with_reducible first | exact HB.out | apply below_alloc | apply pw_below_drewN | apply below_drew1 | refine below_set ?_ GE130.out | refine below_set ?_ GE143.out) | exact HB.out)⟩
  (try clear HO_4)
  (try clear BK130)
  (try clear BK143)
  (try clear HB)
  generalize (((w55.setCell ⟨gb143, 0, none⟩ (.int .i64 t138)).setCell ⟨gb143, 1, none⟩ (.int .i64 t140)).setCell ⟨gb143, 2, none⟩ (.int .i64 t142)) = w29 at n0_ n1_ n2_ n3_ ⊢
  have HO_4 := n0_
  have BK130 := n1_
  have BK143 := n2_
  have HB := n3_
  clear n0_ n1_ n2_ n3_
  have n0_ := mkA (Kd.R_drew HO_4.out)
  have n1_ := mkA (blk_drew BK130.out)
  have n2_ := mkA (blk_drew BK143.out)
  have n3_ := mkA (below_drew1 HB.out)
  clear HO_4 BK130 BK143 HB
  have HO_4 := n0_
  have BK130 := n1_
  have BK143 := n2_
  have HB := n3_
  clear n0_ n1_ n2_ n3_
  refine start_ (n := 16) (S := fun w' => w'.cell? ⟨gb143, 0, none⟩ = some (.int .i64 t138) ∧ w'.cell? ⟨gb143, 1, none⟩ = some (.int .i64 t140) ∧ w'.cell? ⟨gb143, 2, none⟩ = some (.int .i64 t142)) (ds := []) #[false, false, false, false, false, false, false, false, false, false, false, false, false, false, false, false] (by kernel_rfl) rfl rfl ⟨(blk_cell BK143.out 0).trans rfl, (blk_cell BK143.out 1).trans rfl, (blk_cell BK143.out 2).trans rfl⟩ (fun hHeld => ?_); refine with_tabW stamp_parseClock.tab7 stamp_parseClock.bits7 (fun HT_ HW_ => ?_)
  generalize w29.drew = w30 at HO_4 BK130 BK143 HB hHeld ⊢
  refine pu 1 32 HT_ ?_
  refine tk 0 31 HT_ HW_ hHeld ?_
  refine tk 2 33 HT_ HW_ hHeld ?_
  refine pu 3 34 HT_ ?_
  refine pu 4 35 HT_ ?_
  refine pu 5 36 HT_ ?_
  refine tk 6 37 HT_ HW_ hHeld ?_
  refine pu 7 38 HT_ ?_
  refine pu 8 39 HT_ ?_
  refine pu 9 40 HT_ ?_
  refine pu 10 41 HT_ ?_
  refine tk 11 42 HT_ HW_ hHeld ?_
  refine pu 12 43 HT_ ?_
  refine pu 13 44 HT_ ?_
  refine one_ (i := 14) (N := none) #[true, true, true, true, true, true, true, true, true, true, true, true, true, true, true, false] rfl rfl (one_of HT_.out (by kernel_rfl)) (by decide) (fun K hK => ?_)
  have hs31 : w30.cell? ⟨gb130, 0, none⟩ = some (.int .i64 0) := (blk_cell BK130.out 0).trans rfl
  have hfs31 := blk_frozen BK130.out 0
  have hns31_1 := NB143_130.out
  have hms31_1 := NB130_143.out
  have hs32 : w30.cell? ⟨gb130, 1, none⟩ = some (.int .i64 0) := (blk_cell BK130.out 1).trans rfl
  have hfs32 := blk_frozen BK130.out 1
  have hns32_1 := NB143_130.out
  have hms32_1 := NB130_143.out
  have hs33 : w30.cell? ⟨gb130, 2, none⟩ = some (.int .i64 0) := (blk_cell BK130.out 2).trans rfl
  have hfs33 := blk_frozen BK130.out 2
  have hns33_1 := NB143_130.out
  have hms33_1 := NB130_143.out
  refine skip_ (w1 := ?_) (by rfl) rfl ?_ ?_
  rotate_left
  ·go_simp
   rfl
  refine hK.out _ _ ⟨((by have hx := NB143_130.out; exact fS hx (fS hx (fS hx (hHeld.1))))), ((by have hx := NB143_130.out; exact fS hx (fS hx (fS hx (hHeld.2.1))))), ((by have hx := NB143_130.out; exact fS hx (fS hx (fS hx (hHeld.2.2)))))⟩ (fun hHeld => ?_)
  clear hK K
  refine pu 15 3 HT_ ?_
  refine done_ (done_of HT_.out (by kernel_rfl)) ?_
  try go_wp2
  refine bodyPost_ret (results_ct rfl _ _ gb130 45 #[.int .i64 t138, .int .i64 t140, .int .i64 t142] (0, 0) _ rfl (by (with_reducible repeat (first | refine blk_drewN ?_ _ | refine blk_drew ?_ | refine blk_alloc ?_ _)); refine blk_put (cs := #[.int .i64 t138, .int .i64 t140, .int .i64 0]) ?_ 2 _ rfl; (with_reducible repeat (first | refine blk_drewN ?_ _ | refine blk_drew ?_ | refine blk_alloc ?_ _)); refine blk_put (cs := #[.int .i64 t138, .int .i64 0, .int .i64 0]) ?_ 1 _ rfl; (with_reducible repeat (first | refine blk_drewN ?_ _ | refine blk_drew ?_ | refine blk_alloc ?_ _)); refine blk_put (cs := #[.int .i64 0, .int .i64 0, .int .i64 0]) ?_ 0 _ rfl; (with_reducible repeat (first | refine blk_drewN ?_ _ | refine blk_drew ?_ | refine blk_alloc ?_ _)); exact BK130.out) Tryd.underlying45 rfl (by kernel_rfl)) rfl ?_
  exact ⟨by first | rfl | (simp [errW_none, errW_some] <;> rfl) | (simp [*, errW_none, errW_some] <;> rfl), by repeat (first | (with_reducible first | exact HB.out | apply below_alloc | apply pw_below_drewN | apply below_drew1 | refine below_set ?_ GE130.out | refine below_set ?_ GE143.out) | exact HB.out)⟩

end Go.Proofs.YtghdkpcpgpfgcaaDoor.XStb
