import Derived.Test.YtghdkpcpgpfgcaaDoorXStbM0a
namespace Go.Proofs.YtghdkpcpgpfgcaaDoor.XStb
open Go.RowKit Go.Proofs.YtghdkpcpgpfgcaaDoorW.PrintWords Go.Proofs.YtghdkpcpgpfgcaaDoorW.PrintLast Go.Proofs.YtghdkpcpgpfgcaaDoorW.PrintMore
attribute [local go_sem] max2_int min2_int max_two min_two max_three min_three max_four min_four   -- for this text's walks alone
set_option linter.unusedVariables false
set_option linter.unusedSimpArgs false

/-! ### stamp_parseDate: function 15 -/
def stamp_parseDate.j0 : Nat → Int → Int → Int → Option (Int × Int × Int × Bool)
 | 0, _, _, _ => none
 | k + 1, x120000, x120001, x120002 => if x120000 ≥ 0 then (if x120001 > 0 then (some (x120000, x120001, x120002, decide (x120002 ≥ 0))) else (some (x120000, x120001, x120002, false))) else (some (x120000, x120001, x120002, false))
def stamp_parseDate.f (k : Nat) (l0 : List ByteArray) : Option (Int × Int × Int × Bool) := if 0 < (l0.length : Int) then ((stamp_digits.f k (rdOf ByteArray.empty l0 0) 1 2).bind fun t114 => (if 1 < (l0.length : Int) then ((stamp_index.f k (⟨#[106, 97, 110, 32, 102, 101, 98, 32, 109, 97, 114, 32, 97, 112, 114, 32, 109, 97, 121, 32, 106, 117, 110, 32, 106, 117, 108, 32, 97, 117, 103, 32, 115, 101, 112, 32, 111, 99, 116, 32, 110, 111, 118, 32, 100, 101, 99, 32]⟩ : ByteArray) (rdOf ByteArray.empty l0 1)).bind fun t116 => (if 2 < (l0.length : Int) then ((stamp_digits.f k (rdOf ByteArray.empty l0 2) 4 4).bind fun t118 => (if ((rdOf ByteArray.empty l0 2).size : Int) = 2 then ((stamp_digits.f k (rdOf ByteArray.empty l0 2) 2 2).bind fun t122 => (if t122 ≥ 0 then (if (wrap64 (t122 + 1900)) < 1970 then (stamp_parseDate.j0 k t114 (wrap64 (t116 + 1)) (wrap64 ((wrap64 (t122 + 1900)) + 100))) else (stamp_parseDate.j0 k t114 (wrap64 (t116 + 1)) (wrap64 (t122 + 1900)))) else (stamp_parseDate.j0 k t114 (wrap64 (t116 + 1)) t122))) else (stamp_parseDate.j0 k t114 (wrap64 (t116 + 1)) t118))) else (none))) else (none))) else (none)
theorem stamp_parseDate.mono_l : ∀ k, (∀ y0 y1 y2, LeO (stamp_parseDate.j0 k y0 y1 y2) (stamp_parseDate.j0 (k + 1) y0 y1 y2))
 | 0 => fun _ _ _ r h => by simp [stamp_parseDate.j0] at h
 | k + 1 => by
  have ih0 := stamp_parseDate.mono_l k
  ·intro y0 y1 y2
   unfold stamp_parseDate.j0
   repeat' first
   | (with_reducible exact ih0 _ _ _)
   | (with_reducible exact stamp_digits.mono _ _ _ _)
   | (with_reducible exact stamp_index.mono _ _ _)
   | (with_reducible exact LeO.refl _)
   | (with_reducible exact LeO.none _)
   | (with_reducible refine LeO.ite ?_ ?_)
   | (with_reducible refine LeO.bind ?_ (fun _ => ?_))
   | exact ih0 _ _ _
   | exact stamp_digits.mono _ _ _ _
   | exact stamp_index.mono _ _ _
   | exact LeO.none _
   | refine LeO.ite ?_ ?_
   | refine LeO.bind ?_ (fun _ => ?_)
theorem stamp_parseDate.mono : ∀ a0 k, LeO (stamp_parseDate.f k a0) (stamp_parseDate.f (k + 1) a0) := by
 intro a0 k
 have ih0 := stamp_parseDate.mono_l k
 unfold stamp_parseDate.f
 repeat' first
   | (with_reducible exact ih0 _ _ _)
   | (with_reducible exact stamp_digits.mono _ _ _ _)
   | (with_reducible exact stamp_index.mono _ _ _)
   | (with_reducible exact LeO.refl _)
   | (with_reducible exact LeO.none _)
   | (with_reducible refine LeO.ite ?_ ?_)
   | (with_reducible refine LeO.bind ?_ (fun _ => ?_))
   | exact ih0 _ _ _
   | exact stamp_digits.mono _ _ _ _
   | exact stamp_index.mono _ _ _
   | exact LeO.none _
   | refine LeO.ite ?_ ?_
   | refine LeO.bind ?_ (fun _ => ?_)
def stamp_parseDate.T1 : Bool × List (List Nat × List Nat) := (true, [([], []), ([0], [0]), ([1], [1]), ([2], [2]), ([], []), ([4], [4]), ([5], [5]), ([6, 3], [6]), ([7], [7]), ([], []), ([9], [9]), ([10], [10]), ([11, 7], [11]), ([3, 8, 12], [3, 8, 12]), ([], []), ([14, 13, 12, 0, 1, 2, 3, 4, 5, 6, 7, 8, 9, 10, 11, 12, 13, 14], [13, 14])])
def stamp_parseDate.B1 : List Nat := [0, 1, 3, 7, 0, 16, 48, 127, 255, 0, 512, 1536, 3839, 8191, 0, 32767]
theorem stamp_parseDate.tab1 : rtab .any (opsOf Tryd.f15 1) = stamp_parseDate.T1 := by kernel_rfl
theorem stamp_parseDate.bits1 : waitsOk stamp_parseDate.T1.2 stamp_parseDate.B1 = true := by kernel_rfl
def stamp_parseDate.T8 : Bool × List (List Nat × List Nat) := (true, [([], []), ([], []), ([1], [1]), ([2], [2]), ([3], [3]), ([4], [4]), ([5, 4], [4, 5]), ([6, 4], [4, 6]), ([4, 7], [4, 7]), ([8, 4], [8]), ([9], [9]), ([10, 9], [9, 10]), ([11, 9], [9, 11]), ([9, 12], [9, 12]), ([0, 9, 0], [0]), ([13, 14, 0, 1, 2, 3, 4, 5, 6, 7, 8, 9, 10, 11, 12, 13, 14], [13])])
def stamp_parseDate.B8 : List Nat := [0, 0, 2, 6, 14, 30, 62, 126, 254, 510, 1022, 2046, 4094, 8190, 1023, 32767]
theorem stamp_parseDate.tab8 : rtab .any (opsOf Tryd.f15 8) = stamp_parseDate.T8 := by kernel_rfl
theorem stamp_parseDate.bits8 : waitsOk stamp_parseDate.T8.2 stamp_parseDate.B8 = true := by kernel_rfl
set_option maxHeartbeats 8000000 in
set_option maxRecDepth 100000 in
theorem stamp_parseDate.calls (k : Nat) (A0 : Option Addr) (c0 : Nat) (l0 : List ByteArray) (r1 : Int) (r2 : Int) (r3 : Int) (r4 : Bool) (w : World) (hG : Gw w) (hr0 : Kd.C Kd.string w A0 l0.length l0) (hc0 : l0.length ≤ c0) (h : stamp_parseDate.f k l0 = some (r1, r2, r3, r4)) :
  Calls Tryd.prog 15 #[.slice A0 l0.length c0] w fun e w' => e = .returned (.tuple #[.agg #[.int .i64 r1, .int .i64 r2, .int .i64 r3], .bool r4]) ∧ Below w.heap.size w w' := by
 have hu41 := Tryd.underlying41
 have HR0 := mkA hr0
 have HC0 := mkA hc0
 clear hr0 hc0
 have HB := mkA (Below.refl w.heap.size w)
 have H : (if 0 < (l0.length : Int) then ((stamp_digits.f k (rdOf ByteArray.empty l0 0) 1 2).bind fun t114 => (if 1 < (l0.length : Int) then ((stamp_index.f k (⟨#[106, 97, 110, 32, 102, 101, 98, 32, 109, 97, 114, 32, 97, 112, 114, 32, 109, 97, 121, 32, 106, 117, 110, 32, 106, 117, 108, 32, 97, 117, 103, 32, 115, 101, 112, 32, 111, 99, 116, 32, 110, 111, 118, 32, 100, 101, 99, 32]⟩ : ByteArray) (rdOf ByteArray.empty l0 1)).bind fun t116 => (if 2 < (l0.length : Int) then ((stamp_digits.f k (rdOf ByteArray.empty l0 2) 4 4).bind fun t118 => (if ((rdOf ByteArray.empty l0 2).size : Int) = 2 then ((stamp_digits.f k (rdOf ByteArray.empty l0 2) 2 2).bind fun t122 => (if t122 ≥ 0 then (if (wrap64 (t122 + 1900)) < 1970 then (stamp_parseDate.j0 k t114 (wrap64 (t116 + 1)) (wrap64 ((wrap64 (t122 + 1900)) + 100))) else (stamp_parseDate.j0 k t114 (wrap64 (t116 + 1)) (wrap64 (t122 + 1900)))) else (stamp_parseDate.j0 k t114 (wrap64 (t116 + 1)) t122))) else (stamp_parseDate.j0 k t114 (wrap64 (t116 + 1)) t118))) else (none))) else (none))) else (none)) = some (r1, r2, r3, r4) := h
 clear h
 by_cases c2 : 0 < (l0.length : Int)
 rotate_left
 ·rw [if_neg c2] at H
  exact absurd H (by simp)
 rw [if_pos c2] at H
 have c2b0 : decide (0 < (l0.length : Int)) = true := decide_eq_true c2
 have c2b1 : decide (0 < l0.length) = true := decide_eq_true (by omega)
 clear c2
 replace H := Option.bind_eq_some_iff.mp H
 obtain ⟨t114, A30, H⟩ := H
 replace H : (if 1 < (l0.length : Int) then ((stamp_index.f k (⟨#[106, 97, 110, 32, 102, 101, 98, 32, 109, 97, 114, 32, 97, 112, 114, 32, 109, 97, 121, 32, 106, 117, 110, 32, 106, 117, 108, 32, 97, 117, 103, 32, 115, 101, 112, 32, 111, 99, 116, 32, 110, 111, 118, 32, 100, 101, 99, 32]⟩ : ByteArray) (rdOf ByteArray.empty l0 1)).bind fun t116 => (if 2 < (l0.length : Int) then ((stamp_digits.f k (rdOf ByteArray.empty l0 2) 4 4).bind fun t118 => (if ((rdOf ByteArray.empty l0 2).size : Int) = 2 then ((stamp_digits.f k (rdOf ByteArray.empty l0 2) 2 2).bind fun t122 => (if t122 ≥ 0 then (if (wrap64 (t122 + 1900)) < 1970 then (stamp_parseDate.j0 k t114 (wrap64 (t116 + 1)) (wrap64 ((wrap64 (t122 + 1900)) + 100))) else (stamp_parseDate.j0 k t114 (wrap64 (t116 + 1)) (wrap64 (t122 + 1900)))) else (stamp_parseDate.j0 k t114 (wrap64 (t116 + 1)) t122))) else (stamp_parseDate.j0 k t114 (wrap64 (t116 + 1)) t118))) else (none))) else (none)) = some (r1, r2, r3, r4) := H
 have A3 := mkA A30
 clear A30
 by_cases c4 : 1 < (l0.length : Int)
 rotate_left
 ·rw [if_neg c4] at H
  exact absurd H (by simp)
 rw [if_pos c4] at H
 have c4b0 : decide (1 < (l0.length : Int)) = true := decide_eq_true c4
 have c4b1 : decide (1 < l0.length) = true := decide_eq_true (by omega)
 clear c4
 replace H := Option.bind_eq_some_iff.mp H
 obtain ⟨t116, A50, H⟩ := H
 replace H : (if 2 < (l0.length : Int) then ((stamp_digits.f k (rdOf ByteArray.empty l0 2) 4 4).bind fun t118 => (if ((rdOf ByteArray.empty l0 2).size : Int) = 2 then ((stamp_digits.f k (rdOf ByteArray.empty l0 2) 2 2).bind fun t122 => (if t122 ≥ 0 then (if (wrap64 (t122 + 1900)) < 1970 then (stamp_parseDate.j0 k t114 (wrap64 (t116 + 1)) (wrap64 ((wrap64 (t122 + 1900)) + 100))) else (stamp_parseDate.j0 k t114 (wrap64 (t116 + 1)) (wrap64 (t122 + 1900)))) else (stamp_parseDate.j0 k t114 (wrap64 (t116 + 1)) t122))) else (stamp_parseDate.j0 k t114 (wrap64 (t116 + 1)) t118))) else (none)) = some (r1, r2, r3, r4) := H
 have A5 := mkA A50
 clear A50
 by_cases c6 : 2 < (l0.length : Int)
 rotate_left
 ·rw [if_neg c6] at H
  exact absurd H (by simp)
 rw [if_pos c6] at H
 have c6b0 : decide (2 < (l0.length : Int)) = true := decide_eq_true c6
 have c6b1 : decide (2 < l0.length) = true := decide_eq_true (by omega)
 clear c6
 replace H := Option.bind_eq_some_iff.mp H
 obtain ⟨t118, A70, H⟩ := H
 replace H : (if ((rdOf ByteArray.empty l0 2).size : Int) = 2 then ((stamp_digits.f k (rdOf ByteArray.empty l0 2) 2 2).bind fun t122 => (if t122 ≥ 0 then (if (wrap64 (t122 + 1900)) < 1970 then (stamp_parseDate.j0 k t114 (wrap64 (t116 + 1)) (wrap64 ((wrap64 (t122 + 1900)) + 100))) else (stamp_parseDate.j0 k t114 (wrap64 (t116 + 1)) (wrap64 (t122 + 1900)))) else (stamp_parseDate.j0 k t114 (wrap64 (t116 + 1)) t122))) else (stamp_parseDate.j0 k t114 (wrap64 (t116 + 1)) t118)) = some (r1, r2, r3, r4) := H
 have A7 := mkA A70
 clear A70
 have HC8 := mkA H
 clear H
 go_enter Tryd.func15, Tryd.ntmps15
 try go_wp2_with (first | ((with_reducible refine gate_dst (N := 2) rfl ?_); refine box_event ?hg (N := 2) ?hd (cs := #[.int .i64 0, .int .i64 0, .int .i64 0]) (t := 41) ?hr ?_; (case hd => rfl); (case hg => rfl); (case hr => first | (go_simp; done) | (go_simp; rfl)); intro gb112 hg w9 hbox hb; have n0_ := mkA (below_step (below_y HB.out) hb); have n1_ := mkA (hbox); have n2_ := mkA ((gz hg HB.out : w.heap.size ≤ gb112)); have n3_ := mkA ((gz hg HB.out : w.heap.size ≤ gb112)); clear HB; have HB := n0_; have BK112 := n1_; have GW112 := n2_; have GE112 := n3_; clear n0_ n1_ n2_ n3_; clear hb hbox hg))
 have n0_ := mkA (blk_drew BK112.out)
 have n1_ := mkA (below_drew1 HB.out)
 clear BK112 HB
 have BK112 := n0_
 have HB := n1_
 clear n0_ n1_
 have p113 : 0 ≤ (0 : Int) := (by omega)
 have q113 : 0 < (l0.length : Int) := odt
 obtain ⟨ad113, e113, hx113_0⟩ := Kd.at_string HR0.out 0 p113 q113
 have hw113_0 := hx113_0
 (try rw [show ((0 : Int)).toNat = 0 from rfl] at hw113_0)
 (try rw [show 0 * 1 = 0 from rfl] at hw113_0)
 (try rw [Addr.add_zero'] at hw113_0)
 cases e113
 have qi113 : (0 < l0.length) = True := eq_true (by omega)
 (try rw [show ((0 : Int)).toNat = 0 from rfl] at hx113_0)
 (try rw [Addr.add_zero'] at hx113_0)
 replace hx113_0 := (cb HB.out hx113_0).trans hx113_0
 replace p113 := eq_true p113
 replace q113 := eq_true q113
 have p115 : 0 ≤ (1 : Int) := (by omega)
 have q115 : 1 < (l0.length : Int) := odt
 obtain ⟨ad115, e115, hx115_0⟩ := Kd.at_string HR0.out 1 p115 q115
 have hw115_0 := hx115_0
 (try rw [show ((1 : Int)).toNat = 1 from rfl] at hw115_0)
 (try rw [show 1 * 1 = 1 from rfl] at hw115_0)
 (try simp only [Nat.reduceMul, Nat.reduceEqDiff, Go.Addr.add, ↓reduceIte] at hw115_0)
 obtain rfl : ad113 = ad115 := (by injection e115)
 (try simp only [show (1 : Int).toNat = 1 from rfl, Nat.reduceMul, Nat.reduceEqDiff, Go.Addr.add, ↓reduceIte] at hx115_0)
 have qi115 : (1 < l0.length) = True := eq_true (by omega)
 (try rw [show ((1 : Int)).toNat = 1 from rfl] at hx115_0)
 replace hx115_0 := (cb HB.out hx115_0).trans hx115_0
 replace p115 := eq_true p115
 replace q115 := eq_true q115
 have p117 : 0 ≤ (2 : Int) := (by omega)
 have q117 : 2 < (l0.length : Int) := odt
 obtain ⟨ad117, e117, hx117_0⟩ := Kd.at_string HR0.out 2 p117 q117
 have hw117_0 := hx117_0
 (try rw [show ((2 : Int)).toNat = 2 from rfl] at hw117_0)
 (try rw [show 2 * 1 = 2 from rfl] at hw117_0)
 (try simp only [Nat.reduceMul, Nat.reduceEqDiff, Go.Addr.add, ↓reduceIte] at hw117_0)
 obtain rfl : ad113 = ad117 := (by injection e117)
 (try simp only [show (2 : Int).toNat = 2 from rfl, Nat.reduceMul, Nat.reduceEqDiff, Go.Addr.add, ↓reduceIte] at hx117_0)
 have qi117 : (2 < l0.length) = True := eq_true (by omega)
 (try rw [show ((2 : Int)).toNat = 2 from rfl] at hx117_0)
 replace hx117_0 := (cb HB.out hx117_0).trans hx117_0
 replace p117 := eq_true p117
 replace q117 := eq_true q117
 refine start_ (n := 16) (S := fun w' => w'.cell? ad113 = some (.string (rdOf ByteArray.empty l0 0)) ∧ w'.cell? ⟨ad113.block, ad113.off + 1, none⟩ = some (.string (rdOf ByteArray.empty l0 1)) ∧ w'.cell? ⟨ad113.block, ad113.off + 2, none⟩ = some (.string (rdOf ByteArray.empty l0 2))) (ds := []) #[false, false, false, false, false, false, false, false, false, false, false, false, false, false, false, false] (by kernel_rfl) rfl rfl ⟨((cb HB.out hw113_0).trans hw113_0), ((cb HB.out hw115_0).trans hw115_0), ((cb HB.out hw117_0).trans hw117_0)⟩ (fun hHeld => ?_); refine with_tabW stamp_parseDate.tab1 stamp_parseDate.bits1 (fun HT_ HW_ => ?_)
 generalize w9.drew = w10 at BK112 HB hx113_0 hx115_0 hx117_0 hHeld ⊢
 refine pu 0 5 HT_ ?_
 refine pu 1 6 HT_ ?_
 refine pu 4 9 HT_ ?_
 refine pu 5 10 HT_ ?_
 refine pu 9 14 HT_ ?_
 refine pu 10 15 HT_ ?_
 refine tk 2 7 HT_ HW_ hHeld ?_
 refine tk 6 11 HT_ HW_ hHeld ?_
 refine tk 11 16 HT_ HW_ hHeld ?_
 refine join_ (σ := Nat) 1 #[true, true, true, true, true, true, true, true, true, true, true, true, true, true, true, false] (fun s_ => [(8, .int .i64 t114), (12, .int .i64 t116), (17, .int .i64 t118), (4, .pointer (some ⟨s_, 0, none⟩)), (13, .int .i64 (wrap64 (t116 + 1))), (18, .agg #[.int .i64 t114, .int .i64 (wrap64 (t116 + 1)), .int .i64 t118])]) (fun s_ w' => (w'.cell? ad113 = some (.string (rdOf ByteArray.empty l0 0)) ∧ w'.cell? ⟨ad113.block, ad113.off + 1, none⟩ = some (.string (rdOf ByteArray.empty l0 1)) ∧ w'.cell? ⟨ad113.block, ad113.off + 2, none⟩ = some (.string (rdOf ByteArray.empty l0 2))) ∧ (w'.heap[gb112]? = some (.cells #[.int .i64 0, .int .i64 0, .int .i64 0] 41 (0, 0))) ∧ (w'.heap[s_]? = some (.cells #[.int .i64 0, .int .i64 0, .int .i64 0] 41 (0, 0))) ∧ (w.heap.size ≤ s_) ∧ (w.heap.size ≤ s_) ∧ (gb112 ≠ s_) ∧ (s_ ≠ gb112) ∧ (Below w.heap.size w w')) ?_ ?_
 rotate_left
 ·intro hCont
  refine two_ (i := 3) (j := 14) (Ni := some 8) (Nj := some 4) #[true, true, true, true, true, true, true, false, false, true, true, true, false, false, false, false] #[true, true, true, false, true, true, true, false, false, true, true, true, false, false, true, false] rfl rfl rfl rfl (two_of HT_.out (by kernel_rfl)) (by decide) (by decide) (fun K hK => ?_) (fun K hK => ?_)
  ·skip
   refine goes_ Tryd.func35 (by kernel_rfl) rfl #[.string (rdOf ByteArray.empty l0 0), .int .i64 1, .int .i64 2] (by rfl) rfl rfl ca ?_
   with_reducible refine (stamp_digits.calls k (rdOf ByteArray.empty l0 0) 1 2 t114 _ A3.out).mono ?_
   rintro e w11 ⟨rfl, hb⟩
   have hbk_w11 := mkA hb
   refine ⟨_, rfl, ?_⟩
   have n0_ := mkA (blk_below (blk_y BK112.out) hb)
   have n1_ := mkA (below_step (below_y HB.out) hb)
   clear BK112 HB
   have BK112 := n0_
   have HB := n1_
   clear n0_ n1_
   (try clear hb)
   (try clear hb2)
   (try clear hk)
   (try clear hi)
   refine hK.out _ _ ⟨((cb HB.out hw113_0).trans hw113_0), ((cb HB.out hw115_0).trans hw115_0), ((cb HB.out hw117_0).trans hw117_0)⟩ (fun hHeld => ?_)
   clear hK K
   refine norm_ (a' := ?_) ?_ ?_
   rotate_left
   ·show Act.put _ (some 8) _ = _
    simp only [Act.put, sA, s0, sS, i64_w, i32_w]
    rfl
   refine two_ (i := 7) (j := 14) (Ni := some 12) (Nj := some 4) #[true, true, true, true, true, true, true, true, false, true, true, true, false, false, false, false] #[true, true, true, true, true, true, true, false, false, true, true, true, false, false, true, false] rfl rfl rfl rfl (two_of HT_.out (by kernel_rfl)) (by decide) (by decide) (fun K hK => ?_) (fun K hK => ?_)
   ·skip
    refine goes_ Tryd.func14 (by kernel_rfl) rfl #[.string (⟨#[106, 97, 110, 32, 102, 101, 98, 32, 109, 97, 114, 32, 97, 112, 114, 32, 109, 97, 121, 32, 106, 117, 110, 32, 106, 117, 108, 32, 97, 117, 103, 32, 115, 101, 112, 32, 111, 99, 116, 32, 110, 111, 118, 32, 100, 101, 99, 32]⟩ : ByteArray), .string (rdOf ByteArray.empty l0 1)] (by rfl) rfl rfl ca ?_
    with_reducible refine (stamp_index.calls (hG := ?sideG) k (⟨#[106, 97, 110, 32, 102, 101, 98, 32, 109, 97, 114, 32, 97, 112, 114, 32, 109, 97, 121, 32, 106, 117, 110, 32, 106, 117, 108, 32, 97, 117, 103, 32, 115, 101, 112, 32, 111, 99, 116, 32, 110, 111, 118, 32, 100, 101, 99, 32]⟩ : ByteArray) (rdOf ByteArray.empty l0 1) t116 _ A5.out).mono ?_
    (case sideG => exact gG hG (below_y HB.out))
    rintro e w12 ⟨rfl, hb⟩
    have hbk_w12 := mkA hb
    refine ⟨_, rfl, ?_⟩
    have n0_ := mkA (blk_below (blk_y BK112.out) hb)
    have n1_ := mkA (below_step (below_y HB.out) hb)
    clear BK112 HB
    have BK112 := n0_
    have HB := n1_
    clear n0_ n1_
    (try clear hb)
    (try clear hb2)
    (try clear hk)
    (try clear hi)
    refine hK.out _ _ ⟨((cb HB.out hw113_0).trans hw113_0), ((cb HB.out hw115_0).trans hw115_0), ((cb HB.out hw117_0).trans hw117_0)⟩ (fun hHeld => ?_)
    clear hK K
    refine norm_ (a' := ?_) ?_ ?_
    rotate_left
    ·show Act.put _ (some 12) _ = _
     simp only [Act.put, sA, s0, sS, i64_w, i32_w]
     rfl
    refine pu 8 13 HT_ ?_
    refine two_ (i := 12) (j := 14) (Ni := some 17) (Nj := some 4) #[true, true, true, true, true, true, true, true, true, true, true, true, true, false, false, false] #[true, true, true, true, true, true, true, true, true, true, true, true, false, false, true, false] rfl rfl rfl rfl (two_of HT_.out (by kernel_rfl)) (by decide) (by decide) (fun K hK => ?_) (fun K hK => ?_)
    ·skip
     refine goes_ Tryd.func35 (by kernel_rfl) rfl #[.string (rdOf ByteArray.empty l0 2), .int .i64 4, .int .i64 4] (by rfl) rfl rfl ca ?_
     with_reducible refine (stamp_digits.calls k (rdOf ByteArray.empty l0 2) 4 4 t118 _ A7.out).mono ?_
     rintro e w13 ⟨rfl, hb⟩
     have hbk_w13 := mkA hb
     refine ⟨_, rfl, ?_⟩
     have n0_ := mkA (blk_below (blk_y BK112.out) hb)
     have n1_ := mkA (below_step (below_y HB.out) hb)
     clear BK112 HB
     have BK112 := n0_
     have HB := n1_
     clear n0_ n1_
     (try clear hb)
     (try clear hb2)
     (try clear hk)
     (try clear hi)
     refine hK.out _ _ ⟨((cb HB.out hw113_0).trans hw113_0), ((cb HB.out hw115_0).trans hw115_0), ((cb HB.out hw117_0).trans hw117_0)⟩ (fun hHeld => ?_)
     clear hK K
     refine norm_ (a' := ?_) ?_ ?_
     rotate_left
     ·show Act.put _ (some 17) _ = _
      simp only [Act.put, sA, s0, sS, i64_w, i32_w]
      rfl
     refine pu 13 18 HT_ ?_
     refine one_ (i := 14) (N := some 4) #[true, true, true, true, true, true, true, true, true, true, true, true, true, true, true, false] rfl rfl (one_of HT_.out (by kernel_rfl)) (by decide) (fun K hK => ?_)
     refine box_step ?hg (N := 4) ?hd (cs := #[.int .i64 0, .int .i64 0, .int .i64 0]) (t := 41) ?hr ?_; (case hd => rfl); (case hg => rfl); (case hr => first | (go_simp; done) | (go_simp; rfl))
     intro gb119 hg w14 hbox hb
     have n0_ := mkA (blk_below (blk_y BK112.out) hb)
     have n1_ := mkA (below_step (below_y HB.out) hb)
     have n2_ := mkA (hbox)
     have n3_ := mkA ((gz hg HB.out : w.heap.size ≤ gb119))
     have n4_ := mkA ((gz hg HB.out : w.heap.size ≤ gb119))
     have n5_ := mkA ((gn hg BK112.out : gb112 ≠ gb119))
     have n6_ := mkA ((gm hg BK112.out : gb119 ≠ gb112))
     clear BK112 HB
     have BK112 := n0_
     have HB := n1_
     have BK119 := n2_
     have GW119 := n3_
     have GE119 := n4_
     have NB112_119 := n5_
     have NB119_112 := n6_
     clear n0_ n1_ n2_ n3_ n4_ n5_ n6_ hb hbox hg
     refine hK.out _ _ ⟨((cb HB.out hw113_0).trans hw113_0), ((cb HB.out hw115_0).trans hw115_0), ((cb HB.out hw117_0).trans hw117_0)⟩ (fun hHeld => ?_)
     clear hK K
     refine norm_ (a' := ?_) ?_ ?_
     rotate_left
     ·show Act.put _ (some 4) _ = _
      simp only [Act.put, sA, s0, sS, i64_w, i32_w]
      rfl
     exact norm_ (by simp only [putAll, Act.put, sA, s0, sS]) (hCont (gb119) _ ⟨hHeld, (blk_y BK112.out), (blk_y BK119.out), GW119.out, GE119.out, NB112_119.out, NB119_112.out, (below_y HB.out)⟩)
    ·skip
     refine box_step ?hg (N := 4) ?hd (cs := #[.int .i64 0, .int .i64 0, .int .i64 0]) (t := 41) ?hr ?_; (case hd => rfl); (case hg => rfl); (case hr => first | (go_simp; done) | (go_simp; rfl))
     intro gb119 hg w13 hbox hb
     have n0_ := mkA (blk_below (blk_y BK112.out) hb)
     have n1_ := mkA (below_step (below_y HB.out) hb)
     have n2_ := mkA (hbox)
     have n3_ := mkA ((gz hg HB.out : w.heap.size ≤ gb119))
     have n4_ := mkA ((gz hg HB.out : w.heap.size ≤ gb119))
     have n5_ := mkA ((gn hg BK112.out : gb112 ≠ gb119))
     have n6_ := mkA ((gm hg BK112.out : gb119 ≠ gb112))
     clear BK112 HB
     have BK112 := n0_
     have HB := n1_
     have BK119 := n2_
     have GW119 := n3_
     have GE119 := n4_
     have NB112_119 := n5_
     have NB119_112 := n6_
     clear n0_ n1_ n2_ n3_ n4_ n5_ n6_ hb hbox hg
     refine hK.out _ _ ⟨((cb HB.out hw113_0).trans hw113_0), ((cb HB.out hw115_0).trans hw115_0), ((cb HB.out hw117_0).trans hw117_0)⟩ (fun hHeld => ?_)
     clear hK K
     refine norm_ (a' := ?_) ?_ ?_
     rotate_left
     ·show Act.put _ (some 4) _ = _
      simp only [Act.put, sA, s0, sS, i64_w, i32_w]
      rfl
     refine one_ (i := 12) (N := some 17) #[true, true, true, true, true, true, true, true, true, true, true, true, true, false, true, false] rfl rfl (one_of HT_.out (by kernel_rfl)) (by decide) (fun K hK => ?_)
     refine goes_ Tryd.func35 (by kernel_rfl) rfl #[.string (rdOf ByteArray.empty l0 2), .int .i64 4, .int .i64 4] (by rfl) rfl rfl ca ?_
     with_reducible refine (stamp_digits.calls k (rdOf ByteArray.empty l0 2) 4 4 t118 _ A7.out).mono ?_
     rintro e w14 ⟨rfl, hb⟩
     have hbk_w14 := mkA hb
     refine ⟨_, rfl, ?_⟩
     have n0_ := mkA (blk_below (blk_y BK112.out) hb)
     have n1_ := mkA (blk_below (blk_y BK119.out) hb)
     have n2_ := mkA (below_step (below_y HB.out) hb)
     clear BK112 BK119 HB
     have BK112 := n0_
     have BK119 := n1_
     have HB := n2_
     clear n0_ n1_ n2_
     (try clear hb)
     (try clear hb2)
     (try clear hk)
     (try clear hi)
     refine hK.out _ _ ⟨((cb HB.out hw113_0).trans hw113_0), ((cb HB.out hw115_0).trans hw115_0), ((cb HB.out hw117_0).trans hw117_0)⟩ (fun hHeld => ?_)
     clear hK K
     refine norm_ (a' := ?_) ?_ ?_
     rotate_left
     ·show Act.put _ (some 17) _ = _
      simp only [Act.put, sA, s0, sS, i64_w, i32_w]
      rfl
     refine pu 13 18 HT_ ?_
     exact norm_ (by simp only [putAll, Act.put, sA, s0, sS]) (hCont (gb119) _ ⟨hHeld, (blk_y BK112.out), (blk_y BK119.out), GW119.out, GE119.out, NB112_119.out, NB119_112.out, (below_y HB.out)⟩)
   ·skip
    refine box_step ?hg (N := 4) ?hd (cs := #[.int .i64 0, .int .i64 0, .int .i64 0]) (t := 41) ?hr ?_; (case hd => rfl); (case hg => rfl); (case hr => first | (go_simp; done) | (go_simp; rfl))
    intro gb119 hg w12 hbox hb
    have n0_ := mkA (blk_below (blk_y BK112.out) hb)
    have n1_ := mkA (below_step (below_y HB.out) hb)
    have n2_ := mkA (hbox)
    have n3_ := mkA ((gz hg HB.out : w.heap.size ≤ gb119))
    have n4_ := mkA ((gz hg HB.out : w.heap.size ≤ gb119))
    have n5_ := mkA ((gn hg BK112.out : gb112 ≠ gb119))
    have n6_ := mkA ((gm hg BK112.out : gb119 ≠ gb112))
    clear BK112 HB
    have BK112 := n0_
    have HB := n1_
    have BK119 := n2_
    have GW119 := n3_
    have GE119 := n4_
    have NB112_119 := n5_
    have NB119_112 := n6_
    clear n0_ n1_ n2_ n3_ n4_ n5_ n6_ hb hbox hg
    refine hK.out _ _ ⟨((cb HB.out hw113_0).trans hw113_0), ((cb HB.out hw115_0).trans hw115_0), ((cb HB.out hw117_0).trans hw117_0)⟩ (fun hHeld => ?_)
    clear hK K
    refine norm_ (a' := ?_) ?_ ?_
    rotate_left
    ·show Act.put _ (some 4) _ = _
     simp only [Act.put, sA, s0, sS, i64_w, i32_w]
     rfl
    refine one_ (i := 7) (N := some 12) #[true, true, true, true, true, true, true, true, false, true, true, true, false, false, true, false] rfl rfl (one_of HT_.out (by kernel_rfl)) (by decide) (fun K hK => ?_)
    refine goes_ Tryd.func14 (by kernel_rfl) rfl #[.string (⟨#[106, 97, 110, 32, 102, 101, 98, 32, 109, 97, 114, 32, 97, 112, 114, 32, 109, 97, 121, 32, 106, 117, 110, 32, 106, 117, 108, 32, 97, 117, 103, 32, 115, 101, 112, 32, 111, 99, 116, 32, 110, 111, 118, 32, 100, 101, 99, 32]⟩ : ByteArray), .string (rdOf ByteArray.empty l0 1)] (by rfl) rfl rfl ca ?_
    with_reducible refine (stamp_index.calls (hG := ?sideG) k (⟨#[106, 97, 110, 32, 102, 101, 98, 32, 109, 97, 114, 32, 97, 112, 114, 32, 109, 97, 121, 32, 106, 117, 110, 32, 106, 117, 108, 32, 97, 117, 103, 32, 115, 101, 112, 32, 111, 99, 116, 32, 110, 111, 118, 32, 100, 101, 99, 32]⟩ : ByteArray) (rdOf ByteArray.empty l0 1) t116 _ A5.out).mono ?_
    (case sideG => exact gG hG (below_y HB.out))
    rintro e w13 ⟨rfl, hb⟩
    have hbk_w13 := mkA hb
    refine ⟨_, rfl, ?_⟩
    have n0_ := mkA (blk_below (blk_y BK112.out) hb)
    have n1_ := mkA (blk_below (blk_y BK119.out) hb)
    have n2_ := mkA (below_step (below_y HB.out) hb)
    clear BK112 BK119 HB
    have BK112 := n0_
    have BK119 := n1_
    have HB := n2_
    clear n0_ n1_ n2_
    (try clear hb)
    (try clear hb2)
    (try clear hk)
    (try clear hi)
    refine hK.out _ _ ⟨((cb HB.out hw113_0).trans hw113_0), ((cb HB.out hw115_0).trans hw115_0), ((cb HB.out hw117_0).trans hw117_0)⟩ (fun hHeld => ?_)
    clear hK K
    refine norm_ (a' := ?_) ?_ ?_
    rotate_left
    ·show Act.put _ (some 12) _ = _
     simp only [Act.put, sA, s0, sS, i64_w, i32_w]
     rfl
    refine pu 8 13 HT_ ?_
    refine one_ (i := 12) (N := some 17) #[true, true, true, true, true, true, true, true, true, true, true, true, true, false, true, false] rfl rfl (one_of HT_.out (by kernel_rfl)) (by decide) (fun K hK => ?_)
    refine goes_ Tryd.func35 (by kernel_rfl) rfl #[.string (rdOf ByteArray.empty l0 2), .int .i64 4, .int .i64 4] (by rfl) rfl rfl ca ?_
    with_reducible refine (stamp_digits.calls k (rdOf ByteArray.empty l0 2) 4 4 t118 _ A7.out).mono ?_
    rintro e w14 ⟨rfl, hb⟩
    have hbk_w14 := mkA hb
    refine ⟨_, rfl, ?_⟩
    have n0_ := mkA (blk_below (blk_y BK112.out) hb)
    have n1_ := mkA (blk_below (blk_y BK119.out) hb)
    have n2_ := mkA (below_step (below_y HB.out) hb)
    clear BK112 BK119 HB
    have BK112 := n0_
    have BK119 := n1_
    have HB := n2_
    clear n0_ n1_ n2_
    (try clear hb)
    (try clear hb2)
    (try clear hk)
    (try clear hi)
    refine hK.out _ _ ⟨((cb HB.out hw113_0).trans hw113_0), ((cb HB.out hw115_0).trans hw115_0), ((cb HB.out hw117_0).trans hw117_0)⟩ (fun hHeld => ?_)
    clear hK K
    refine norm_ (a' := ?_) ?_ ?_
    rotate_left
    ·show Act.put _ (some 17) _ = _
     simp only [Act.put, sA, s0, sS, i64_w, i32_w]
     rfl
    refine pu 13 18 HT_ ?_
    exact norm_ (by simp only [putAll, Act.put, sA, s0, sS]) (hCont (gb119) _ ⟨hHeld, (blk_y BK112.out), (blk_y BK119.out), GW119.out, GE119.out, NB112_119.out, NB119_112.out, (below_y HB.out)⟩)
  ·skip
   refine box_step ?hg (N := 4) ?hd (cs := #[.int .i64 0, .int .i64 0, .int .i64 0]) (t := 41) ?hr ?_; (case hd => rfl); (case hg => rfl); (case hr => first | (go_simp; done) | (go_simp; rfl))
   intro gb119 hg w11 hbox hb
   have n0_ := mkA (blk_below (blk_y BK112.out) hb)
   have n1_ := mkA (below_step (below_y HB.out) hb)
   have n2_ := mkA (hbox)
   have n3_ := mkA ((gz hg HB.out : w.heap.size ≤ gb119))
   have n4_ := mkA ((gz hg HB.out : w.heap.size ≤ gb119))
   have n5_ := mkA ((gn hg BK112.out : gb112 ≠ gb119))
   have n6_ := mkA ((gm hg BK112.out : gb119 ≠ gb112))
   clear BK112 HB
   have BK112 := n0_
   have HB := n1_
   have BK119 := n2_
   have GW119 := n3_
   have GE119 := n4_
   have NB112_119 := n5_
   have NB119_112 := n6_
   clear n0_ n1_ n2_ n3_ n4_ n5_ n6_ hb hbox hg
   refine hK.out _ _ ⟨((cb HB.out hw113_0).trans hw113_0), ((cb HB.out hw115_0).trans hw115_0), ((cb HB.out hw117_0).trans hw117_0)⟩ (fun hHeld => ?_)
   clear hK K
   refine norm_ (a' := ?_) ?_ ?_
   rotate_left
   ·show Act.put _ (some 4) _ = _
    simp only [Act.put, sA, s0, sS, i64_w, i32_w]
    rfl
   refine one_ (i := 3) (N := some 8) #[true, true, true, true, true, true, true, false, false, true, true, true, false, false, true, false] rfl rfl (one_of HT_.out (by kernel_rfl)) (by decide) (fun K hK => ?_)
   refine goes_ Tryd.func35 (by kernel_rfl) rfl #[.string (rdOf ByteArray.empty l0 0), .int .i64 1, .int .i64 2] (by rfl) rfl rfl ca ?_
   with_reducible refine (stamp_digits.calls k (rdOf ByteArray.empty l0 0) 1 2 t114 _ A3.out).mono ?_
   rintro e w12 ⟨rfl, hb⟩
   have hbk_w12 := mkA hb
   refine ⟨_, rfl, ?_⟩
   have n0_ := mkA (blk_below (blk_y BK112.out) hb)
   have n1_ := mkA (blk_below (blk_y BK119.out) hb)
   have n2_ := mkA (below_step (below_y HB.out) hb)
   clear BK112 BK119 HB
   have BK112 := n0_
   have BK119 := n1_
   have HB := n2_
   clear n0_ n1_ n2_
   (try clear hb)
   (try clear hb2)
   (try clear hk)
   (try clear hi)
   refine hK.out _ _ ⟨((cb HB.out hw113_0).trans hw113_0), ((cb HB.out hw115_0).trans hw115_0), ((cb HB.out hw117_0).trans hw117_0)⟩ (fun hHeld => ?_)
   clear hK K
   refine norm_ (a' := ?_) ?_ ?_
   rotate_left
   ·show Act.put _ (some 8) _ = _
    simp only [Act.put, sA, s0, sS, i64_w, i32_w]
    rfl
   refine one_ (i := 7) (N := some 12) #[true, true, true, true, true, true, true, true, false, true, true, true, false, false, true, false] rfl rfl (one_of HT_.out (by kernel_rfl)) (by decide) (fun K hK => ?_)
   refine goes_ Tryd.func14 (by kernel_rfl) rfl #[.string (⟨#[106, 97, 110, 32, 102, 101, 98, 32, 109, 97, 114, 32, 97, 112, 114, 32, 109, 97, 121, 32, 106, 117, 110, 32, 106, 117, 108, 32, 97, 117, 103, 32, 115, 101, 112, 32, 111, 99, 116, 32, 110, 111, 118, 32, 100, 101, 99, 32]⟩ : ByteArray), .string (rdOf ByteArray.empty l0 1)] (by rfl) rfl rfl ca ?_
   with_reducible refine (stamp_index.calls (hG := ?sideG) k (⟨#[106, 97, 110, 32, 102, 101, 98, 32, 109, 97, 114, 32, 97, 112, 114, 32, 109, 97, 121, 32, 106, 117, 110, 32, 106, 117, 108, 32, 97, 117, 103, 32, 115, 101, 112, 32, 111, 99, 116, 32, 110, 111, 118, 32, 100, 101, 99, 32]⟩ : ByteArray) (rdOf ByteArray.empty l0 1) t116 _ A5.out).mono ?_
   (case sideG => exact gG hG (below_y HB.out))
   rintro e w13 ⟨rfl, hb⟩
   have hbk_w13 := mkA hb
   refine ⟨_, rfl, ?_⟩
   have n0_ := mkA (blk_below (blk_y BK112.out) hb)
   have n1_ := mkA (blk_below (blk_y BK119.out) hb)
   have n2_ := mkA (below_step (below_y HB.out) hb)
   clear BK112 BK119 HB
   have BK112 := n0_
   have BK119 := n1_
   have HB := n2_
   clear n0_ n1_ n2_
   (try clear hb)
   (try clear hb2)
   (try clear hk)
   (try clear hi)
   refine hK.out _ _ ⟨((cb HB.out hw113_0).trans hw113_0), ((cb HB.out hw115_0).trans hw115_0), ((cb HB.out hw117_0).trans hw117_0)⟩ (fun hHeld => ?_)
   clear hK K
   refine norm_ (a' := ?_) ?_ ?_
   rotate_left
   ·show Act.put _ (some 12) _ = _
    simp only [Act.put, sA, s0, sS, i64_w, i32_w]
    rfl
   refine pu 8 13 HT_ ?_
   refine one_ (i := 12) (N := some 17) #[true, true, true, true, true, true, true, true, true, true, true, true, true, false, true, false] rfl rfl (one_of HT_.out (by kernel_rfl)) (by decide) (fun K hK => ?_)
   refine goes_ Tryd.func35 (by kernel_rfl) rfl #[.string (rdOf ByteArray.empty l0 2), .int .i64 4, .int .i64 4] (by rfl) rfl rfl ca ?_
   with_reducible refine (stamp_digits.calls k (rdOf ByteArray.empty l0 2) 4 4 t118 _ A7.out).mono ?_
   rintro e w14 ⟨rfl, hb⟩
   have hbk_w14 := mkA hb
   refine ⟨_, rfl, ?_⟩
   have n0_ := mkA (blk_below (blk_y BK112.out) hb)
   have n1_ := mkA (blk_below (blk_y BK119.out) hb)
   have n2_ := mkA (below_step (below_y HB.out) hb)
   clear BK112 BK119 HB
   have BK112 := n0_
   have BK119 := n1_
   have HB := n2_
   clear n0_ n1_ n2_
   (try clear hb)
   (try clear hb2)
   (try clear hk)
   (try clear hi)
   refine hK.out _ _ ⟨((cb HB.out hw113_0).trans hw113_0), ((cb HB.out hw115_0).trans hw115_0), ((cb HB.out hw117_0).trans hw117_0)⟩ (fun hHeld => ?_)
   clear hK K
   refine norm_ (a' := ?_) ?_ ?_
   rotate_left
   ·show Act.put _ (some 17) _ = _
    simp only [Act.put, sA, s0, sS, i64_w, i32_w]
    rfl
   refine pu 13 18 HT_ ?_
   exact norm_ (by simp only [putAll, Act.put, sA, s0, sS]) (hCont (gb119) _ ⟨hHeld, (blk_y BK112.out), (blk_y BK119.out), GW119.out, GE119.out, NB112_119.out, NB119_112.out, (below_y HB.out)⟩)
 rintro gb119 w15 ⟨hS_, h0_, h1_, h2_, h3_, h4_, h5_, h6_⟩
 have n0_ : Aside0 (w15.heap[gb112]? = some (.cells #[.int .i64 0, .int .i64 0, .int .i64 0] 41 (0, 0))) := ⟨h0_⟩
 have n1_ : Aside0 (w15.heap[gb119]? = some (.cells #[.int .i64 0, .int .i64 0, .int .i64 0] 41 (0, 0))) := ⟨h1_⟩
 have n2_ : Aside0 (w.heap.size ≤ gb119) := ⟨h2_⟩
 have n3_ : Aside0 (w.heap.size ≤ gb119) := ⟨h3_⟩
 have n4_ : Aside0 (gb112 ≠ gb119) := ⟨h4_⟩
 have n5_ : Aside0 (gb119 ≠ gb112) := ⟨h5_⟩
 have n6_ : Aside0 (Below w.heap.size w w15) := ⟨h6_⟩
 clear BK112 HB h0_ h1_ h2_ h3_ h4_ h5_ h6_
 have BK112 := n0_
 have BK119 := n1_
 have GW119 := n2_
 have GE119 := n3_
 have NB112_119 := n4_
 have NB119_112 := n5_
 have HB := n6_
 clear n0_ n1_ n2_ n3_ n4_ n5_ n6_
 have hHeld : w15.cell? ad113 = some (.string (rdOf ByteArray.empty l0 0)) ∧ w15.cell? ⟨ad113.block, ad113.off + 1, none⟩ = some (.string (rdOf ByteArray.empty l0 1)) ∧ w15.cell? ⟨ad113.block, ad113.off + 2, none⟩ = some (.string (rdOf ByteArray.empty l0 2)) := hS_
 refine norm_ (a' := ?_) ?_ ?_
 rotate_left
 ·simp only [putAll, Act.put, sA, s0, sS]
  rfl
 refine one_ (i := 15) (N := none) #[true, true, true, true, true, true, true, true, true, true, true, true, true, true, true, true] rfl rfl (one_of HT_.out (by kernel_rfl)) (by decide) (fun K hK => ?_)
 have hs16 : w15.cell? ⟨gb119, 0, none⟩ = some (.int .i64 0) := (blk_cell BK119.out 0).trans rfl
 have hfs16 := blk_frozen BK119.out 0
 have hns16_0 := NB112_119.out
 have hms16_0 := NB119_112.out
 have hs17 : w15.cell? ⟨gb119, 1, none⟩ = some (.int .i64 0) := (blk_cell BK119.out 1).trans rfl
 have hfs17 := blk_frozen BK119.out 1
 have hns17_0 := NB112_119.out
 have hms17_0 := NB119_112.out
 have hs18 : w15.cell? ⟨gb119, 2, none⟩ = some (.int .i64 0) := (blk_cell BK119.out 2).trans rfl
 have hfs18 := blk_frozen BK119.out 2
 have hns18_0 := NB112_119.out
 have hms18_0 := NB119_112.out
 refine skip_ (w1 := ?_) (by rfl) rfl ?_ ?_
 rotate_left
 ·go_simp
  rfl
 refine hK.out _ _ ⟨((by have hx := Nat.ne_of_lt (Nat.lt_of_lt_of_le (by have := World.block_lt_of_cell? _ _ hw113_0; first | rwa [add_block] at this | exact this) GW119.out); exact fS hx (fS hx (fS hx (hHeld.1))))), ((by have hx := Nat.ne_of_lt (Nat.lt_of_lt_of_le (by have := World.block_lt_of_cell? _ _ hw115_0; first | rwa [add_block] at this | exact this) GW119.out); exact fS hx (fS hx (fS hx (hHeld.2.1))))), ((by have hx := Nat.ne_of_lt (Nat.lt_of_lt_of_le (by have := World.block_lt_of_cell? _ _ hw117_0; first | rwa [add_block] at this | exact this) GW119.out); exact fS hx (fS hx (fS hx (hHeld.2.2)))))⟩ (fun hHeld => ?_)
 clear hK K
 refine done_ (done_of HT_.out (by kernel_rfl)) ?_
 have p120 : 0 ≤ (2 : Int) := (by omega)
 have q120 : 2 < (l0.length : Int) := odt
 obtain ⟨ad120, e120, hx120_0⟩ := Kd.at_string HR0.out 2 p120 q120
 obtain rfl : ad113 = ad120 := (by injection e120)
 (try simp only [show (2 : Int).toNat = 2 from rfl, Nat.reduceMul, Nat.reduceEqDiff, Go.Addr.add, ↓reduceIte] at hx120_0)
 have qi120 : (2 < l0.length) = True := eq_true (by omega)
 (try rw [show ((2 : Int)).toNat = 2 from rfl] at hx120_0)
 have hn120_0 : ad113.block ≠ gb119 := Nat.ne_of_lt (Nat.lt_of_lt_of_le (by have := World.block_lt_of_cell? _ _ hx120_0; first | rwa [add_block] at this | exact this) GW119.out)
 have hn120_1 : ad113.block ≠ gb119 := Nat.ne_of_lt (Nat.lt_of_lt_of_le (by have := World.block_lt_of_cell? _ _ hx120_0; first | rwa [add_block] at this | exact this) GW119.out)
 have hn120_2 : ad113.block ≠ gb119 := Nat.ne_of_lt (Nat.lt_of_lt_of_le (by have := World.block_lt_of_cell? _ _ hx120_0; first | rwa [add_block] at this | exact this) GW119.out)
 replace hx120_0 := (cb HB.out hx120_0).trans hx120_0
 replace hx120_0 := (cell_far (p := ⟨gb119, 0, none⟩) (by first | (rw [add_block]; exact hn120_0) | (show (Addr.add _ _).block ≠ _; rw [add_block]; exact hn120_0) | exact hn120_0) (.int .i64 t114)).trans hx120_0
 replace hx120_0 := (cell_far (p := ⟨gb119, 1, none⟩) (by first | (rw [add_block]; exact hn120_1) | (show (Addr.add _ _).block ≠ _; rw [add_block]; exact hn120_1) | exact hn120_1) (.int .i64 (wrap64 (t116 + 1)))).trans hx120_0
 replace hx120_0 := (cell_far (p := ⟨gb119, 2, none⟩) (by first | (rw [add_block]; exact hn120_2) | (show (Addr.add _ _).block ≠ _; rw [add_block]; exact hn120_2) | exact hn120_2) (.int .i64 t118)).trans hx120_0
 clear hn120_0 hn120_1 hn120_2
 replace p120 := eq_true p120
 replace q120 := eq_true q120
 go_upto_if 23 with (fail)
 go_cut [] (fun wc => ∃ (kq : Nat) (x120002_7 : Int), Aside0 (stamp_parseDate.j0 kq t114 (wrap64 (t116 + 1)) x120002_7 = some (r1, r2, r3, r4)) ∧ Aside0 (kq ≤ k) ∧ Aside0 (wc.heap[gb112]? = some (.cells #[.int .i64 0, .int .i64 0, .int .i64 0] 41 (0, 0))) ∧ Aside0 (wc.heap[gb119]? = some (.cells #[.int .i64 t114, .int .i64 (wrap64 (t116 + 1)), .int .i64 x120002_7] 41 (0, 0))) ∧ Aside0 (Below w.heap.size w wc))
 case first =>
  have H := HC8.out
  clear HC8
  by_cases c19 : ((rdOf ByteArray.empty l0 2).size : Int) = 2
  ·rw [if_pos c19] at H
   have c19b0 : (((rdOf ByteArray.empty l0 2).size : Int) == 2) = true := beq_iff_eq.mpr c19
   have c19b1 : (((rdOf ByteArray.empty l0 2).size : Int) != 2) = false := bne_eq_false_iff_eq.mpr c19
   clear c19
   (first | rw [c19b0] | (simp only [i64_w, i32_w]; rw [c19b0]) | skip)
   replace H := Option.bind_eq_some_iff.mp H
   obtain ⟨t122, A200, H⟩ := H
   replace H : (if t122 ≥ 0 then (if (wrap64 (t122 + 1900)) < 1970 then (stamp_parseDate.j0 k t114 (wrap64 (t116 + 1)) (wrap64 ((wrap64 (t122 + 1900)) + 100))) else (stamp_parseDate.j0 k t114 (wrap64 (t116 + 1)) (wrap64 (t122 + 1900)))) else (stamp_parseDate.j0 k t114 (wrap64 (t116 + 1)) t122)) = some (r1, r2, r3, r4) := H
   have A20 := mkA A200
   clear A200
   by_cases c21 : t122 ≥ 0
   ·rw [if_pos c21] at H
    have c21b0 : decide (0 ≤ t122) = true := decide_eq_true c21
    clear c21
    by_cases c22 : (wrap64 (t122 + 1900)) < 1970
    ·rw [if_pos c22] at H
     have c22b0 : decide ((wrap64 (t122 + 1900)) < 1970) = true := decide_eq_true c22
     clear c22
     as_aux_lemma =>
      have H' := mkA H
      clear H
      have p121 : 0 ≤ (2 : Int) := (by omega)
      have q121 : 2 < (l0.length : Int) := odt
      obtain ⟨ad121, e121, hx121_0⟩ := Kd.at_string HR0.out 2 p121 q121
      obtain rfl : ad113 = ad121 := (by injection e121)
      (try simp only [show (2 : Int).toNat = 2 from rfl, Nat.reduceMul, Nat.reduceEqDiff, Go.Addr.add, ↓reduceIte] at hx121_0)
      have qi121 : (2 < l0.length) = True := eq_true (by omega)
      (try rw [show ((2 : Int)).toNat = 2 from rfl] at hx121_0)
      have hn121_0 : ad113.block ≠ gb119 := Nat.ne_of_lt (Nat.lt_of_lt_of_le (by have := World.block_lt_of_cell? _ _ hx121_0; first | rwa [add_block] at this | exact this) GW119.out)
      have hn121_1 : ad113.block ≠ gb119 := Nat.ne_of_lt (Nat.lt_of_lt_of_le (by have := World.block_lt_of_cell? _ _ hx121_0; first | rwa [add_block] at this | exact this) GW119.out)
      have hn121_2 : ad113.block ≠ gb119 := Nat.ne_of_lt (Nat.lt_of_lt_of_le (by have := World.block_lt_of_cell? _ _ hx121_0; first | rwa [add_block] at this | exact this) GW119.out)
      replace hx121_0 := (cb HB.out hx121_0).trans hx121_0
      replace hx121_0 := (cell_far (p := ⟨gb119, 0, none⟩) (by first | (rw [add_block]; exact hn121_0) | (show (Addr.add _ _).block ≠ _; rw [add_block]; exact hn121_0) | exact hn121_0) (.int .i64 t114)).trans hx121_0
      replace hx121_0 := (cell_far (p := ⟨gb119, 1, none⟩) (by first | (rw [add_block]; exact hn121_1) | (show (Addr.add _ _).block ≠ _; rw [add_block]; exact hn121_1) | exact hn121_1) (.int .i64 (wrap64 (t116 + 1)))).trans hx121_0
      replace hx121_0 := (cell_far (p := ⟨gb119, 2, none⟩) (by first | (rw [add_block]; exact hn121_2) | (show (Addr.add _ _).block ≠ _; rw [add_block]; exact hn121_2) | exact hn121_2) (.int .i64 t118)).trans hx121_0
      clear hn121_0 hn121_1 hn121_2
      replace p121 := eq_true p121
      replace q121 := eq_true q121
      go_wp2_with (first | ((with_reducible refine gate_callee (f := 35) rfl ?_); refine goesL_ (some 27) rfl rfl Tryd.func35 (by kernel_rfl) rfl #[.string (rdOf ByteArray.empty l0 2), .int .i64 2, .int .i64 2] rfl ca ?_; (with_reducible refine (stamp_digits.calls k (rdOf ByteArray.empty l0 2) 2 2 t122 _ A20.out).mono ?_); rintro e w23 ⟨rfl, hb⟩; refine ⟨_, rfl, ?_⟩; have n0_ := mkA (blk_below (g := gb112) (o := .cells #[.int .i64 0, .int .i64 0, .int .i64 0] 41 (0, 0)) (by (iterate 3 ((with_reducible repeat (first | refine blk_drewN ?_ _ | refine blk_drew ?_ | refine blk_alloc ?_ _)); refine blk_far ?_ NB112_119.out _)); (with_reducible repeat (first | refine blk_drewN ?_ _ | refine blk_drew ?_ | refine blk_alloc ?_ _)); exact BK112.out) hb); have n1_ := mkA (blk_below (g := gb119) (o := .cells #[.int .i64 t114, .int .i64 (wrap64 (t116 + 1)), .int .i64 t118] 41 (0, 0)) (by (with_reducible repeat (first | refine blk_drewN ?_ _ | refine blk_drew ?_ | refine blk_alloc ?_ _)); refine blk_put (cs := #[.int .i64 t114, .int .i64 (wrap64 (t116 + 1)), .int .i64 0]) ?_ 2 _ rfl; (with_reducible repeat (first | refine blk_drewN ?_ _ | refine blk_drew ?_ | refine blk_alloc ?_ _)); refine blk_put (cs := #[.int .i64 t114, .int .i64 0, .int .i64 0]) ?_ 1 _ rfl; (with_reducible repeat (first | refine blk_drewN ?_ _ | refine blk_drew ?_ | refine blk_alloc ?_ _)); refine blk_put (cs := #[.int .i64 0, .int .i64 0, .int .i64 0]) ?_ 0 _ rfl; (with_reducible repeat (first | refine blk_drewN ?_ _ | refine blk_drew ?_ | refine blk_alloc ?_ _)); exact BK119.out) hb); have n2_ := mkA (below_step (below_y HB.out) hb); clear BK112; clear BK119; clear HB; have BK112 := n0_; have BK119 := n1_; have HB := n2_; clear n0_ n1_ n2_; (try clear hb); (try clear hb2); (try clear hk); (try clear hi); have hnb24 := NB119_112.out; have hnc24 := NB112_119.out; have hcz25_0 := bc BK119.out 0 (.int .i64 t114) rfl; have hcz25_1 := bc BK119.out 1 (.int .i64 (wrap64 (t116 + 1))) rfl; have hcz25_2 := bc BK119.out 2 (.int .i64 t118) rfl; have hfz25_0 := blk_frozen BK119.out 0; have hfz25_1 := blk_frozen BK119.out 1; have hfz25_2 := blk_frozen BK119.out 2))
      go_meet
      case rel => exact ⟨_, (wrap64 ((wrap64 (t122 + 1900)) + 100)), H', ⟨by first | omega | exact Nat.le_refl _⟩, ⟨by (iterate 3 ((with_reducible repeat (first | refine blk_drewN ?_ _ | refine blk_drew ?_ | refine blk_alloc ?_ _)); refine blk_far ?_ NB112_119.out _)); (with_reducible repeat (first | refine blk_drewN ?_ _ | refine blk_drew ?_ | refine blk_alloc ?_ _)); exact BK112.out⟩, ⟨by (with_reducible repeat (first | refine blk_drewN ?_ _ | refine blk_drew ?_ | refine blk_alloc ?_ _)); refine blk_put (cs := #[.int .i64 t114, .int .i64 (wrap64 (t116 + 1)), .int .i64 (wrap64 (t122 + 1900))]) ?_ 2 _ rfl; (with_reducible repeat (first | refine blk_drewN ?_ _ | refine blk_drew ?_ | refine blk_alloc ?_ _)); refine blk_put (cs := #[.int .i64 t114, .int .i64 (wrap64 (t116 + 1)), .int .i64 t122]) ?_ 2 _ rfl; (with_reducible repeat (first | refine blk_drewN ?_ _ | refine blk_drew ?_ | refine blk_alloc ?_ _)); refine blk_put (cs := #[.int .i64 t114, .int .i64 (wrap64 (t116 + 1)), .int .i64 t118]) ?_ 2 _ rfl; (with_reducible repeat (first | refine blk_drewN ?_ _ | refine blk_drew ?_ | refine blk_alloc ?_ _)); exact BK119.out⟩, ⟨by repeat (first | (with_reducible first | exact HB.out | apply below_alloc | apply pw_below_drewN | apply below_drew1 | refine below_set ?_ GE112.out | refine below_set ?_ GE119.out) | exact HB.out)⟩⟩
    ·rw [if_neg c22] at H
     have c22b0 : decide ((wrap64 (t122 + 1900)) < 1970) = false := decide_eq_false c22
     clear c22
     as_aux_lemma =>
      have H' := mkA H
      clear H
      have p121 : 0 ≤ (2 : Int) := (by omega)
      have q121 : 2 < (l0.length : Int) := odt
      obtain ⟨ad121, e121, hx121_0⟩ := Kd.at_string HR0.out 2 p121 q121
      obtain rfl : ad113 = ad121 := (by injection e121)
      (try simp only [show (2 : Int).toNat = 2 from rfl, Nat.reduceMul, Nat.reduceEqDiff, Go.Addr.add, ↓reduceIte] at hx121_0)
      have qi121 : (2 < l0.length) = True := eq_true (by omega)
      (try rw [show ((2 : Int)).toNat = 2 from rfl] at hx121_0)
      have hn121_0 : ad113.block ≠ gb119 := Nat.ne_of_lt (Nat.lt_of_lt_of_le (by have := World.block_lt_of_cell? _ _ hx121_0; first | rwa [add_block] at this | exact this) GW119.out)
      have hn121_1 : ad113.block ≠ gb119 := Nat.ne_of_lt (Nat.lt_of_lt_of_le (by have := World.block_lt_of_cell? _ _ hx121_0; first | rwa [add_block] at this | exact this) GW119.out)
      have hn121_2 : ad113.block ≠ gb119 := Nat.ne_of_lt (Nat.lt_of_lt_of_le (by have := World.block_lt_of_cell? _ _ hx121_0; first | rwa [add_block] at this | exact this) GW119.out)
      replace hx121_0 := (cb HB.out hx121_0).trans hx121_0
      replace hx121_0 := (cell_far (p := ⟨gb119, 0, none⟩) (by first | (rw [add_block]; exact hn121_0) | (show (Addr.add _ _).block ≠ _; rw [add_block]; exact hn121_0) | exact hn121_0) (.int .i64 t114)).trans hx121_0
      replace hx121_0 := (cell_far (p := ⟨gb119, 1, none⟩) (by first | (rw [add_block]; exact hn121_1) | (show (Addr.add _ _).block ≠ _; rw [add_block]; exact hn121_1) | exact hn121_1) (.int .i64 (wrap64 (t116 + 1)))).trans hx121_0
      replace hx121_0 := (cell_far (p := ⟨gb119, 2, none⟩) (by first | (rw [add_block]; exact hn121_2) | (show (Addr.add _ _).block ≠ _; rw [add_block]; exact hn121_2) | exact hn121_2) (.int .i64 t118)).trans hx121_0
      clear hn121_0 hn121_1 hn121_2
      replace p121 := eq_true p121
      replace q121 := eq_true q121
      go_wp2_with (first | ((with_reducible refine gate_callee (f := 35) rfl ?_); refine goesL_ (some 27) rfl rfl Tryd.func35 (by kernel_rfl) rfl #[.string (rdOf ByteArray.empty l0 2), .int .i64 2, .int .i64 2] rfl ca ?_; (with_reducible refine (stamp_digits.calls k (rdOf ByteArray.empty l0 2) 2 2 t122 _ A20.out).mono ?_); rintro e w26 ⟨rfl, hb⟩; refine ⟨_, rfl, ?_⟩; have n0_ := mkA (blk_below (g := gb112) (o := .cells #[.int .i64 0, .int .i64 0, .int .i64 0] 41 (0, 0)) (by (iterate 3 ((with_reducible repeat (first | refine blk_drewN ?_ _ | refine blk_drew ?_ | refine blk_alloc ?_ _)); refine blk_far ?_ NB112_119.out _)); (with_reducible repeat (first | refine blk_drewN ?_ _ | refine blk_drew ?_ | refine blk_alloc ?_ _)); exact BK112.out) hb); have n1_ := mkA (blk_below (g := gb119) (o := .cells #[.int .i64 t114, .int .i64 (wrap64 (t116 + 1)), .int .i64 t118] 41 (0, 0)) (by (with_reducible repeat (first | refine blk_drewN ?_ _ | refine blk_drew ?_ | refine blk_alloc ?_ _)); refine blk_put (cs := #[.int .i64 t114, .int .i64 (wrap64 (t116 + 1)), .int .i64 0]) ?_ 2 _ rfl; (with_reducible repeat (first | refine blk_drewN ?_ _ | refine blk_drew ?_ | refine blk_alloc ?_ _)); refine blk_put (cs := #[.int .i64 t114, .int .i64 0, .int .i64 0]) ?_ 1 _ rfl; (with_reducible repeat (first | refine blk_drewN ?_ _ | refine blk_drew ?_ | refine blk_alloc ?_ _)); refine blk_put (cs := #[.int .i64 0, .int .i64 0, .int .i64 0]) ?_ 0 _ rfl; (with_reducible repeat (first | refine blk_drewN ?_ _ | refine blk_drew ?_ | refine blk_alloc ?_ _)); exact BK119.out) hb); have n2_ := mkA (below_step (below_y HB.out) hb); clear BK112; clear BK119; clear HB; have BK112 := n0_; have BK119 := n1_; have HB := n2_; clear n0_ n1_ n2_; (try clear hb); (try clear hb2); (try clear hk); (try clear hi); have hnb27 := NB119_112.out; have hnc27 := NB112_119.out; have hcz28_0 := bc BK119.out 0 (.int .i64 t114) rfl; have hcz28_1 := bc BK119.out 1 (.int .i64 (wrap64 (t116 + 1))) rfl; have hcz28_2 := bc BK119.out 2 (.int .i64 t118) rfl; have hfz28_0 := blk_frozen BK119.out 0; have hfz28_1 := blk_frozen BK119.out 1; have hfz28_2 := blk_frozen BK119.out 2))
      go_meet
      case rel => exact ⟨_, (wrap64 (t122 + 1900)), H', ⟨by first | omega | exact Nat.le_refl _⟩, ⟨by (iterate 2 ((with_reducible repeat (first | refine blk_drewN ?_ _ | refine blk_drew ?_ | refine blk_alloc ?_ _)); refine blk_far ?_ NB112_119.out _)); (with_reducible repeat (first | refine blk_drewN ?_ _ | refine blk_drew ?_ | refine blk_alloc ?_ _)); exact BK112.out⟩, ⟨by (with_reducible repeat (first | refine blk_drewN ?_ _ | refine blk_drew ?_ | refine blk_alloc ?_ _)); refine blk_put (cs := #[.int .i64 t114, .int .i64 (wrap64 (t116 + 1)), .int .i64 t122]) ?_ 2 _ rfl; (with_reducible repeat (first | refine blk_drewN ?_ _ | refine blk_drew ?_ | refine blk_alloc ?_ _)); refine blk_put (cs := #[.int .i64 t114, .int .i64 (wrap64 (t116 + 1)), .int .i64 t118]) ?_ 2 _ rfl; (with_reducible repeat (first | refine blk_drewN ?_ _ | refine blk_drew ?_ | refine blk_alloc ?_ _)); exact BK119.out⟩, ⟨by repeat (first | (with_reducible first | exact HB.out | apply below_alloc | apply pw_below_drewN | apply below_drew1 | refine below_set ?_ GE112.out | refine below_set ?_ GE119.out) | exact HB.out)⟩⟩
   ·rw [if_neg c21] at H
    have c21b0 : decide (0 ≤ t122) = false := decide_eq_false c21
    clear c21
    as_aux_lemma =>
     have H' := mkA H
     clear H
     have p121 : 0 ≤ (2 : Int) := (by omega)
     have q121 : 2 < (l0.length : Int) := odt
     obtain ⟨ad121, e121, hx121_0⟩ := Kd.at_string HR0.out 2 p121 q121
     obtain rfl : ad113 = ad121 := (by injection e121)
     (try simp only [show (2 : Int).toNat = 2 from rfl, Nat.reduceMul, Nat.reduceEqDiff, Go.Addr.add, ↓reduceIte] at hx121_0)
     have qi121 : (2 < l0.length) = True := eq_true (by omega)
     (try rw [show ((2 : Int)).toNat = 2 from rfl] at hx121_0)
     have hn121_0 : ad113.block ≠ gb119 := Nat.ne_of_lt (Nat.lt_of_lt_of_le (by have := World.block_lt_of_cell? _ _ hx121_0; first | rwa [add_block] at this | exact this) GW119.out)
     have hn121_1 : ad113.block ≠ gb119 := Nat.ne_of_lt (Nat.lt_of_lt_of_le (by have := World.block_lt_of_cell? _ _ hx121_0; first | rwa [add_block] at this | exact this) GW119.out)
     have hn121_2 : ad113.block ≠ gb119 := Nat.ne_of_lt (Nat.lt_of_lt_of_le (by have := World.block_lt_of_cell? _ _ hx121_0; first | rwa [add_block] at this | exact this) GW119.out)
     replace hx121_0 := (cb HB.out hx121_0).trans hx121_0
     replace hx121_0 := (cell_far (p := ⟨gb119, 0, none⟩) (by first | (rw [add_block]; exact hn121_0) | (show (Addr.add _ _).block ≠ _; rw [add_block]; exact hn121_0) | exact hn121_0) (.int .i64 t114)).trans hx121_0
     replace hx121_0 := (cell_far (p := ⟨gb119, 1, none⟩) (by first | (rw [add_block]; exact hn121_1) | (show (Addr.add _ _).block ≠ _; rw [add_block]; exact hn121_1) | exact hn121_1) (.int .i64 (wrap64 (t116 + 1)))).trans hx121_0
     replace hx121_0 := (cell_far (p := ⟨gb119, 2, none⟩) (by first | (rw [add_block]; exact hn121_2) | (show (Addr.add _ _).block ≠ _; rw [add_block]; exact hn121_2) | exact hn121_2) (.int .i64 t118)).trans hx121_0
     clear hn121_0 hn121_1 hn121_2
     replace p121 := eq_true p121
     replace q121 := eq_true q121
     go_wp2_with (first | ((with_reducible refine gate_callee (f := 35) rfl ?_); refine goesL_ (some 27) rfl rfl Tryd.func35 (by kernel_rfl) rfl #[.string (rdOf ByteArray.empty l0 2), .int .i64 2, .int .i64 2] rfl ca ?_; (with_reducible refine (stamp_digits.calls k (rdOf ByteArray.empty l0 2) 2 2 t122 _ A20.out).mono ?_); rintro e w29 ⟨rfl, hb⟩; refine ⟨_, rfl, ?_⟩; have n0_ := mkA (blk_below (g := gb112) (o := .cells #[.int .i64 0, .int .i64 0, .int .i64 0] 41 (0, 0)) (by (iterate 3 ((with_reducible repeat (first | refine blk_drewN ?_ _ | refine blk_drew ?_ | refine blk_alloc ?_ _)); refine blk_far ?_ NB112_119.out _)); (with_reducible repeat (first | refine blk_drewN ?_ _ | refine blk_drew ?_ | refine blk_alloc ?_ _)); exact BK112.out) hb); have n1_ := mkA (blk_below (g := gb119) (o := .cells #[.int .i64 t114, .int .i64 (wrap64 (t116 + 1)), .int .i64 t118] 41 (0, 0)) (by (with_reducible repeat (first | refine blk_drewN ?_ _ | refine blk_drew ?_ | refine blk_alloc ?_ _)); refine blk_put (cs := #[.int .i64 t114, .int .i64 (wrap64 (t116 + 1)), .int .i64 0]) ?_ 2 _ rfl; (with_reducible repeat (first | refine blk_drewN ?_ _ | refine blk_drew ?_ | refine blk_alloc ?_ _)); refine blk_put (cs := #[.int .i64 t114, .int .i64 0, .int .i64 0]) ?_ 1 _ rfl; (with_reducible repeat (first | refine blk_drewN ?_ _ | refine blk_drew ?_ | refine blk_alloc ?_ _)); refine blk_put (cs := #[.int .i64 0, .int .i64 0, .int .i64 0]) ?_ 0 _ rfl; (with_reducible repeat (first | refine blk_drewN ?_ _ | refine blk_drew ?_ | refine blk_alloc ?_ _)); exact BK119.out) hb); have n2_ := mkA (below_step (below_y HB.out) hb); clear BK112; clear BK119; clear HB; have BK112 := n0_; have BK119 := n1_; have HB := n2_; clear n0_ n1_ n2_; (try clear hb); (try clear hb2); (try clear hk); (try clear hi); have hnb30 := NB119_112.out; have hnc30 := NB112_119.out; have hcz31_0 := bc BK119.out 0 (.int .i64 t114) rfl; have hcz31_1 := bc BK119.out 1 (.int .i64 (wrap64 (t116 + 1))) rfl; have hcz31_2 := bc BK119.out 2 (.int .i64 t118) rfl; have hfz31_0 := blk_frozen BK119.out 0; have hfz31_1 := blk_frozen BK119.out 1; have hfz31_2 := blk_frozen BK119.out 2))
     go_meet
     case rel => exact ⟨_, (t122), H', ⟨by first | omega | exact Nat.le_refl _⟩, ⟨by (with_reducible repeat (first | refine blk_drewN ?_ _ | refine blk_drew ?_ | refine blk_alloc ?_ _)); refine blk_far ?_ NB112_119.out _; (with_reducible repeat (first | refine blk_drewN ?_ _ | refine blk_drew ?_ | refine blk_alloc ?_ _)); exact BK112.out⟩, ⟨by (with_reducible repeat (first | refine blk_drewN ?_ _ | refine blk_drew ?_ | refine blk_alloc ?_ _)); refine blk_put (cs := #[.int .i64 t114, .int .i64 (wrap64 (t116 + 1)), .int .i64 t118]) ?_ 2 _ rfl; (with_reducible repeat (first | refine blk_drewN ?_ _ | refine blk_drew ?_ | refine blk_alloc ?_ _)); exact BK119.out⟩, ⟨by repeat (first | (with_reducible first | exact HB.out | apply below_alloc | apply pw_below_drewN | apply below_drew1 | refine below_set ?_ GE112.out | refine below_set ?_ GE119.out) | exact HB.out)⟩⟩
  ·rw [if_neg c19] at H
   have c19b0 : (((rdOf ByteArray.empty l0 2).size : Int) == 2) = false := beq_eq_false_iff_ne.mpr c19
   have c19b1 : (((rdOf ByteArray.empty l0 2).size : Int) != 2) = true := bne_iff_ne.mpr c19
   (first | rw [c19b0] | (simp only [i64_w, i32_w]; rw [c19b0]) | skip)
   as_aux_lemma =>
    have H' := mkA H
    clear H
    go_wp2
    go_meet
    case rel => exact ⟨_, (t118), H', ⟨by first | omega | exact Nat.le_refl _⟩, ⟨by (iterate 3 ((with_reducible repeat (first | refine blk_drewN ?_ _ | refine blk_drew ?_ | refine blk_alloc ?_ _)); refine blk_far ?_ NB112_119.out _)); (with_reducible repeat (first | refine blk_drewN ?_ _ | refine blk_drew ?_ | refine blk_alloc ?_ _)); exact BK112.out⟩, ⟨by (with_reducible repeat (first | refine blk_drewN ?_ _ | refine blk_drew ?_ | refine blk_alloc ?_ _)); refine blk_put (cs := #[.int .i64 t114, .int .i64 (wrap64 (t116 + 1)), .int .i64 0]) ?_ 2 _ rfl; (with_reducible repeat (first | refine blk_drewN ?_ _ | refine blk_drew ?_ | refine blk_alloc ?_ _)); refine blk_put (cs := #[.int .i64 t114, .int .i64 0, .int .i64 0]) ?_ 1 _ rfl; (with_reducible repeat (first | refine blk_drewN ?_ _ | refine blk_drew ?_ | refine blk_alloc ?_ _)); refine blk_put (cs := #[.int .i64 0, .int .i64 0, .int .i64 0]) ?_ 0 _ rfl; (with_reducible repeat (first | refine blk_drewN ?_ _ | refine blk_drew ?_ | refine blk_alloc ?_ _)); exact BK119.out⟩, ⟨by repeat (first | (with_reducible first | exact HB.out | apply below_alloc | apply pw_below_drewN | apply below_drew1 | refine below_set ?_ GE112.out | refine below_set ?_ GE119.out) | exact HB.out)⟩⟩
 clear HC8
 try clear c1
 try clear p1
 try clear q1
 try clear hx1
 try clear qi1
 try clear c2
 try clear p2
 try clear c3
 try clear p6
 try clear p12
 try clear q12
 try clear hx12
 try clear qi12
 try clear c14
 try clear c19
 try clear c19b0
 try clear c19b1
 try clear c21
 try clear c21b0
 try clear c22
 try clear c22b0
 try clear c24
 try clear c27
 try clear c30
 try clear hcz25_0
 try clear hcz25_1
 try clear hcz25_2
 try clear hcz28_0
 try clear hcz28_1
 try clear hcz28_2
 try clear hcz31_0
 try clear hcz31_1
 try clear hcz31_2
 try clear hfz25_0
 try clear hfz25_1
 try clear hfz25_2
 try clear hfz28_0
 try clear hfz28_1
 try clear hfz28_2
 try clear hfz31_0
 try clear hfz31_1
 try clear hfz31_2
 try clear hx120_0
 try clear hx121_0
 try clear p120
 try clear p121
 try clear q120
 try clear q121
 obtain ⟨kq, x120002_7, HA, HJ7, BK112, BK119, HB⟩ := hcut
 rcases kq with _ | kj7
 ·exact absurd HA.out (by simp [stamp_parseDate.j0])
 have H := HA.out
 clear HA
 simp only [stamp_parseDate.j0] at H
 by_cases c32 : t114 ≥ 0
 rotate_left
 ·rw [if_neg c32] at H
  have c32b0 : decide (0 ≤ t114) = false := decide_eq_false c32
  clear c32
  simp only [Option.some.injEq, Prod.mk.injEq] at H
  obtain ⟨rfl, rfl, rfl, rfl⟩ := H
  as_aux_lemma =>
   try go_wp2
   have n0_ := mkA (blk_drew BK112.out)
   have n1_ := mkA (blk_drew BK119.out)
   have n2_ := mkA (below_drew1 HB.out)
   clear BK112 BK119 HB
   have BK112 := n0_
   have BK119 := n1_
   have HB := n2_
   clear n0_ n1_ n2_
   refine start_ (n := 16) (S := fun w' => w'.cell? ⟨gb119, 0, none⟩ = some (.int .i64 t114) ∧ w'.cell? ⟨gb119, 1, none⟩ = some (.int .i64 (wrap64 (t116 + 1))) ∧ w'.cell? ⟨gb119, 2, none⟩ = some (.int .i64 x120002_7)) (ds := []) #[false, false, false, false, false, false, false, false, false, false, false, false, false, false, false, false] (by kernel_rfl) rfl rfl ⟨(blk_cell BK119.out 0).trans rfl, (blk_cell BK119.out 1).trans rfl, (blk_cell BK119.out 2).trans rfl⟩ (fun hHeld => ?_); refine with_tabW stamp_parseDate.tab8 stamp_parseDate.bits8 (fun HT_ HW_ => ?_)
   generalize wc.drew = w42 at BK112 BK119 HB hHeld ⊢
   refine pu 1 44 HT_ ?_
   refine tk 0 43 HT_ HW_ hHeld ?_
   refine tk 2 45 HT_ HW_ hHeld ?_
   refine pu 3 46 HT_ ?_
   refine pu 4 47 HT_ ?_
   refine pn 5 48 HT_ ?_
   refine pn 6 49 HT_ ?_
   refine pn 7 50 HT_ ?_
   refine pu 8 51 HT_ ?_
   refine pu 9 52 HT_ ?_
   refine pn 10 53 HT_ ?_
   refine pn 11 54 HT_ ?_
   refine pn 12 55 HT_ ?_
   refine pu 13 56 HT_ ?_
   refine one_ (i := 14) (N := none) #[true, true, true, true, true, true, true, true, true, true, true, true, true, true, true, false] rfl rfl (one_of HT_.out (by kernel_rfl)) (by decide) (fun K hK => ?_)
   have hs43 : w42.cell? ⟨gb112, 0, none⟩ = some (.int .i64 0) := (blk_cell BK112.out 0).trans rfl
   have hfs43 := blk_frozen BK112.out 0
   have hns43_1 := NB119_112.out
   have hms43_1 := NB112_119.out
   have hs44 : w42.cell? ⟨gb112, 1, none⟩ = some (.int .i64 0) := (blk_cell BK112.out 1).trans rfl
   have hfs44 := blk_frozen BK112.out 1
   have hns44_1 := NB119_112.out
   have hms44_1 := NB112_119.out
   have hs45 : w42.cell? ⟨gb112, 2, none⟩ = some (.int .i64 0) := (blk_cell BK112.out 2).trans rfl
   have hfs45 := blk_frozen BK112.out 2
   have hns45_1 := NB119_112.out
   have hms45_1 := NB112_119.out
   refine skip_ (w1 := ?_) (by rfl) rfl ?_ ?_
   rotate_left
   ·go_simp
    rfl
   refine hK.out _ _ ⟨((by have hx := NB119_112.out; exact fS hx (fS hx (fS hx (hHeld.1))))), ((by have hx := NB119_112.out; exact fS hx (fS hx (fS hx (hHeld.2.1))))), ((by have hx := NB119_112.out; exact fS hx (fS hx (fS hx (hHeld.2.2)))))⟩ (fun hHeld => ?_)
   clear hK K
   refine pu 15 3 HT_ ?_
   refine done_ (done_of HT_.out (by kernel_rfl)) ?_
   try go_wp2
   refine bodyPost_ret (results_ct rfl _ _ gb112 41 #[.int .i64 t114, .int .i64 (wrap64 (t116 + 1)), .int .i64 x120002_7] (0, 0) _ rfl (by (with_reducible repeat (first | refine blk_drewN ?_ _ | refine blk_drew ?_ | refine blk_alloc ?_ _)); refine blk_put (cs := #[.int .i64 t114, .int .i64 (wrap64 (t116 + 1)), .int .i64 0]) ?_ 2 _ rfl; (with_reducible repeat (first | refine blk_drewN ?_ _ | refine blk_drew ?_ | refine blk_alloc ?_ _)); refine blk_put (cs := #[.int .i64 t114, .int .i64 0, .int .i64 0]) ?_ 1 _ rfl; (with_reducible repeat (first | refine blk_drewN ?_ _ | refine blk_drew ?_ | refine blk_alloc ?_ _)); refine blk_put (cs := #[.int .i64 0, .int .i64 0, .int .i64 0]) ?_ 0 _ rfl; (with_reducible repeat (first | refine blk_drewN ?_ _ | refine blk_drew ?_ | refine blk_alloc ?_ _)); exact BK112.out) Tryd.underlying41 rfl (by kernel_rfl)) rfl ?_
   exact ⟨by first | rfl | (simp [errW_none, errW_some] <;> rfl) | (simp [*, errW_none, errW_some] <;> rfl), by repeat (first | (with_reducible first | exact HB.out | apply below_alloc | apply pw_below_drewN | apply below_drew1 | refine below_set ?_ GE112.out | refine below_set ?_ GE119.out) | exact HB.out)⟩
 rw [if_pos c32] at H
 have c32b0 : decide (0 ≤ t114) = true := decide_eq_true c32
 clear c32
 by_cases c33 : (wrap64 (t116 + 1)) > 0
 rotate_left
 ·rw [if_neg c33] at H
  have c33b0 : decide (0 < (wrap64 (t116 + 1))) = false := decide_eq_false c33
  clear c33
  simp only [Option.some.injEq, Prod.mk.injEq] at H
  obtain ⟨rfl, rfl, rfl, rfl⟩ := H
  as_aux_lemma =>
   try go_wp2
   have n0_ := mkA (blk_drew BK112.out)
   have n1_ := mkA (blk_drew BK119.out)
   have n2_ := mkA (below_drew1 HB.out)
   clear BK112 BK119 HB
   have BK112 := n0_
   have BK119 := n1_
   have HB := n2_
   clear n0_ n1_ n2_
   refine start_ (n := 16) (S := fun w' => w'.cell? ⟨gb119, 0, none⟩ = some (.int .i64 t114) ∧ w'.cell? ⟨gb119, 1, none⟩ = some (.int .i64 (wrap64 (t116 + 1))) ∧ w'.cell? ⟨gb119, 2, none⟩ = some (.int .i64 x120002_7)) (ds := []) #[false, false, false, false, false, false, false, false, false, false, false, false, false, false, false, false] (by kernel_rfl) rfl rfl ⟨(blk_cell BK119.out 0).trans rfl, (blk_cell BK119.out 1).trans rfl, (blk_cell BK119.out 2).trans rfl⟩ (fun hHeld => ?_); refine with_tabW stamp_parseDate.tab8 stamp_parseDate.bits8 (fun HT_ HW_ => ?_)
   generalize wc.drew = w38 at BK112 BK119 HB hHeld ⊢
   refine pu 1 44 HT_ ?_
   refine tk 0 43 HT_ HW_ hHeld ?_
   refine tk 2 45 HT_ HW_ hHeld ?_
   refine pu 3 46 HT_ ?_
   refine pu 4 47 HT_ ?_
   refine pu 5 48 HT_ ?_
   refine tk 6 49 HT_ HW_ hHeld ?_
   refine pu 7 50 HT_ ?_
   refine pu 8 51 HT_ ?_
   refine pu 9 52 HT_ ?_
   refine pn 10 53 HT_ ?_
   refine pn 11 54 HT_ ?_
   refine pn 12 55 HT_ ?_
   refine pu 13 56 HT_ ?_
   refine one_ (i := 14) (N := none) #[true, true, true, true, true, true, true, true, true, true, true, true, true, true, true, false] rfl rfl (one_of HT_.out (by kernel_rfl)) (by decide) (fun K hK => ?_)
   have hs39 : w38.cell? ⟨gb112, 0, none⟩ = some (.int .i64 0) := (blk_cell BK112.out 0).trans rfl
   have hfs39 := blk_frozen BK112.out 0
   have hns39_1 := NB119_112.out
   have hms39_1 := NB112_119.out
   have hs40 : w38.cell? ⟨gb112, 1, none⟩ = some (.int .i64 0) := (blk_cell BK112.out 1).trans rfl
   have hfs40 := blk_frozen BK112.out 1
   have hns40_1 := NB119_112.out
   have hms40_1 := NB112_119.out
   have hs41 : w38.cell? ⟨gb112, 2, none⟩ = some (.int .i64 0) := (blk_cell BK112.out 2).trans rfl
   have hfs41 := blk_frozen BK112.out 2
   have hns41_1 := NB119_112.out
   have hms41_1 := NB112_119.out
   refine skip_ (w1 := ?_) (by rfl) rfl ?_ ?_
   rotate_left
   ·go_simp
    rfl
   refine hK.out _ _ ⟨((by have hx := NB119_112.out; exact fS hx (fS hx (fS hx (hHeld.1))))), ((by have hx := NB119_112.out; exact fS hx (fS hx (fS hx (hHeld.2.1))))), ((by have hx := NB119_112.out; exact fS hx (fS hx (fS hx (hHeld.2.2)))))⟩ (fun hHeld => ?_)
   clear hK K
   refine pu 15 3 HT_ ?_
   refine done_ (done_of HT_.out (by kernel_rfl)) ?_
   try go_wp2
   refine bodyPost_ret (results_ct rfl _ _ gb112 41 #[.int .i64 t114, .int .i64 (wrap64 (t116 + 1)), .int .i64 x120002_7] (0, 0) _ rfl (by (with_reducible repeat (first | refine blk_drewN ?_ _ | refine blk_drew ?_ | refine blk_alloc ?_ _)); refine blk_put (cs := #[.int .i64 t114, .int .i64 (wrap64 (t116 + 1)), .int .i64 0]) ?_ 2 _ rfl; (with_reducible repeat (first | refine blk_drewN ?_ _ | refine blk_drew ?_ | refine blk_alloc ?_ _)); refine blk_put (cs := #[.int .i64 t114, .int .i64 0, .int .i64 0]) ?_ 1 _ rfl; (with_reducible repeat (first | refine blk_drewN ?_ _ | refine blk_drew ?_ | refine blk_alloc ?_ _)); refine blk_put (cs := #[.int .i64 0, .int .i64 0, .int .i64 0]) ?_ 0 _ rfl; (with_reducible repeat (first | refine blk_drewN ?_ _ | refine blk_drew ?_ | refine blk_alloc ?_ _)); exact BK112.out) Tryd.underlying41 rfl (by kernel_rfl)) rfl ?_
   exact ⟨by first | rfl | (simp [errW_none, errW_some] <;> rfl) | (simp [*, errW_none, errW_some] <;> rfl), by repeat (first | (with_reducible first | exact HB.out | apply below_alloc | apply pw_below_drewN | apply below_drew1 | refine below_set ?_ GE112.out | refine below_set ?_ GE119.out) | exact HB.out)⟩
 rw [if_pos c33] at H
 have c33b0 : decide (0 < (wrap64 (t116 + 1))) = true := decide_eq_true c33
 clear c33
 simp only [Option.some.injEq, Prod.mk.injEq] at H
 obtain ⟨rfl, rfl, rfl, rfl⟩ := H
 as_aux_lemma =>
  try go_wp2
  have n0_ := mkA (blk_drew BK112.out)
  have n1_ := mkA (blk_drew BK119.out)
  have n2_ := mkA (below_drew1 HB.out)
  clear BK112 BK119 HB
  have BK112 := n0_
  have BK119 := n1_
  have HB := n2_
  clear n0_ n1_ n2_
  refine start_ (n := 16) (S := fun w' => w'.cell? ⟨gb119, 0, none⟩ = some (.int .i64 t114) ∧ w'.cell? ⟨gb119, 1, none⟩ = some (.int .i64 (wrap64 (t116 + 1))) ∧ w'.cell? ⟨gb119, 2, none⟩ = some (.int .i64 x120002_7)) (ds := []) #[false, false, false, false, false, false, false, false, false, false, false, false, false, false, false, false] (by kernel_rfl) rfl rfl ⟨(blk_cell BK119.out 0).trans rfl, (blk_cell BK119.out 1).trans rfl, (blk_cell BK119.out 2).trans rfl⟩ (fun hHeld => ?_); refine with_tabW stamp_parseDate.tab8 stamp_parseDate.bits8 (fun HT_ HW_ => ?_)
  generalize wc.drew = w34 at BK112 BK119 HB hHeld ⊢
  refine pu 1 44 HT_ ?_
  refine tk 0 43 HT_ HW_ hHeld ?_
  refine tk 2 45 HT_ HW_ hHeld ?_
  refine pu 3 46 HT_ ?_
  refine pu 4 47 HT_ ?_
  refine pu 5 48 HT_ ?_
  refine tk 6 49 HT_ HW_ hHeld ?_
  refine pu 7 50 HT_ ?_
  refine pu 8 51 HT_ ?_
  refine pu 9 52 HT_ ?_
  refine pu 10 53 HT_ ?_
  refine tk 11 54 HT_ HW_ hHeld ?_
  refine pu 12 55 HT_ ?_
  refine pu 13 56 HT_ ?_
  refine one_ (i := 14) (N := none) #[true, true, true, true, true, true, true, true, true, true, true, true, true, true, true, false] rfl rfl (one_of HT_.out (by kernel_rfl)) (by decide) (fun K hK => ?_)
  have hs35 : w34.cell? ⟨gb112, 0, none⟩ = some (.int .i64 0) := (blk_cell BK112.out 0).trans rfl
  have hfs35 := blk_frozen BK112.out 0
  have hns35_1 := NB119_112.out
  have hms35_1 := NB112_119.out
  have hs36 : w34.cell? ⟨gb112, 1, none⟩ = some (.int .i64 0) := (blk_cell BK112.out 1).trans rfl
  have hfs36 := blk_frozen BK112.out 1
  have hns36_1 := NB119_112.out
  have hms36_1 := NB112_119.out
  have hs37 : w34.cell? ⟨gb112, 2, none⟩ = some (.int .i64 0) := (blk_cell BK112.out 2).trans rfl
  have hfs37 := blk_frozen BK112.out 2
  have hns37_1 := NB119_112.out
  have hms37_1 := NB112_119.out
  refine skip_ (w1 := ?_) (by rfl) rfl ?_ ?_
  rotate_left
  ·go_simp
   rfl
  refine hK.out _ _ ⟨((by have hx := NB119_112.out; exact fS hx (fS hx (fS hx (hHeld.1))))), ((by have hx := NB119_112.out; exact fS hx (fS hx (fS hx (hHeld.2.1))))), ((by have hx := NB119_112.out; exact fS hx (fS hx (fS hx (hHeld.2.2)))))⟩ (fun hHeld => ?_)
  clear hK K
  refine pu 15 3 HT_ ?_
  refine done_ (done_of HT_.out (by kernel_rfl)) ?_
  try go_wp2
  refine bodyPost_ret (results_ct rfl _ _ gb112 41 #[.int .i64 t114, .int .i64 (wrap64 (t116 + 1)), .int .i64 x120002_7] (0, 0) _ rfl (by (with_reducible repeat (first | refine blk_drewN ?_ _ | refine blk_drew ?_ | refine blk_alloc ?_ _)); refine blk_put (cs := #[.int .i64 t114, .int .i64 (wrap64 (t116 + 1)), .int .i64 0]) ?_ 2 _ rfl; (with_reducible repeat (first | refine blk_drewN ?_ _ | refine blk_drew ?_ | refine blk_alloc ?_ _)); refine blk_put (cs := #[.int .i64 t114, .int .i64 0, .int .i64 0]) ?_ 1 _ rfl; (with_reducible repeat (first | refine blk_drewN ?_ _ | refine blk_drew ?_ | refine blk_alloc ?_ _)); refine blk_put (cs := #[.int .i64 0, .int .i64 0, .int .i64 0]) ?_ 0 _ rfl; (with_reducible repeat (first | refine blk_drewN ?_ _ | refine blk_drew ?_ | refine blk_alloc ?_ _)); exact BK112.out) Tryd.underlying41 rfl (by kernel_rfl)) rfl ?_
  exact ⟨by first | rfl | (simp [errW_none, errW_some] <;> rfl) | (simp [*, errW_none, errW_some] <;> rfl), by repeat (first | (with_reducible first | exact HB.out | apply below_alloc | apply pw_below_drewN | apply below_drew1 | refine below_set ?_ GE112.out | refine below_set ?_ GE119.out) | exact HB.out)⟩

end Go.Proofs.YtghdkpcpgpfgcaaDoor.XStb
