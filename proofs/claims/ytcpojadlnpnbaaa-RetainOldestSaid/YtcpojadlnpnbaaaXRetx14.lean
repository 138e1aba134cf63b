-- By a program of this work (xprint.py) over the translation; Lean checks it.
import Derived.Test.YtcpojadlnpnbaaaXRetx0
import Derived.Test.YtcpojadlnpnbaaaXRetx9
import Derived.Test.YtcpojadlnpnbaaaXRetx11
import Derived.Test.YtcpojadlnpnbaaaXRetx13
namespace Go.Proofs.Ytcpojadlnpnbaaa.XRet
open Go.RowKit Go.Proofs.YtcpojadlnpnbaaaW.PrintWords Go.Proofs.YtcpojadlnpnbaaaW.PrintLast Go.Proofs.YtcpojadlnpnbaaaW.PrintMore
attribute [local go_sem] max2_int min2_int max_two min_two max_three min_three max_four min_four   -- for this text's walks alone
set_option linter.unusedVariables false
set_option linter.unusedSimpArgs false

/-! ### retain_older: function 22 -/
def retain_older.f (k : Nat) (a0_0 : Int) (a0_1 : Int) (a0_2 : ByteArray) (a0_3 : ByteArray) (a0_4 : ByteArray) (a0_5 : Int) (a0_6 : Int) (a0_7 : Int) (a0_8 : Int) (a0_9 : Bool) (a0_10 : Int) (a0_11 : Int) (a0_12 : Int) (a0_13 : ByteArray) (a0_14 : Int) (a0_15 : Int) (a0_16 : ByteArray) (a0_17 : Int) (a0_18 : Int) (a0_19 : ByteArray) (a1_0 : Int) (a1_1 : Int) (a1_2 : ByteArray) (a1_3 : ByteArray) (a1_4 : ByteArray) (a1_5 : Int) (a1_6 : Int) (a1_7 : Int) (a1_8 : Int) (a1_9 : Bool) (a1_10 : Int) (a1_11 : Int) (a1_12 : Int) (a1_13 : ByteArray) (a1_14 : Int) (a1_15 : Int) (a1_16 : ByteArray) (a1_17 : Int) (a1_18 : Int) (a1_19 : ByteArray) : Option (Int) := (cmp_Compare_int64.f a0_5 a1_5).bind fun t121 => ((cmp_Compare_int.f a0_0 a1_0).bind fun t122 => ((cmp_Or_int.f k (([t121, t122] : List Int))).bind fun t126 => (some t126)))
theorem retain_older.mono : ∀ a0 a1 a2 a3 a4 a5 a6 a7 a8 a9 a10 a11 a12 a13 a14 a15 a16 a17 a18 a19 a20 a21 a22 a23 a24 a25 a26 a27 a28 a29 a30 a31 a32 a33 a34 a35 a36 a37 a38 a39 k, LeO (retain_older.f k a0 a1 a2 a3 a4 a5 a6 a7 a8 a9 a10 a11 a12 a13 a14 a15 a16 a17 a18 a19 a20 a21 a22 a23 a24 a25 a26 a27 a28 a29 a30 a31 a32 a33 a34 a35 a36 a37 a38 a39) (retain_older.f (k + 1) a0 a1 a2 a3 a4 a5 a6 a7 a8 a9 a10 a11 a12 a13 a14 a15 a16 a17 a18 a19 a20 a21 a22 a23 a24 a25 a26 a27 a28 a29 a30 a31 a32 a33 a34 a35 a36 a37 a38 a39) := by
 intro a0 a1 a2 a3 a4 a5 a6 a7 a8 a9 a10 a11 a12 a13 a14 a15 a16 a17 a18 a19 a20 a21 a22 a23 a24 a25 a26 a27 a28 a29 a30 a31 a32 a33 a34 a35 a36 a37 a38 a39 k
 unfold retain_older.f
 repeat' first
   | (with_reducible exact cmp_Or_int.mono _ _)
   | (with_reducible exact LeO.refl _)
   | (with_reducible exact LeO.none _)
   | (with_reducible refine LeO.ite ?_ ?_)
   | (with_reducible refine LeO.bind ?_ (fun _ => ?_))
   | exact cmp_Or_int.mono _ _
   | exact LeO.none _
   | refine LeO.ite ?_ ?_
   | refine LeO.bind ?_ (fun _ => ?_)
def retain_older.T1 : Bool × List (List Nat × List Nat) := (true, [([], []), ([0], [0]), ([], []), ([2], [2]), ([1, 3], [1, 3]), ([], []), ([5], [5]), ([], []), ([7], [7]), ([6, 8, 4], [6, 8]), ([4, 9], [4, 9]), ([10, 9], [10]), ([11, 11, 0, 1, 2, 3, 4, 5, 6, 7, 8, 9, 10, 11], [11])])
def retain_older.B1 : List Nat := [0, 1, 0, 4, 15, 0, 32, 0, 128, 511, 1023, 2047, 4095]
theorem retain_older.tab1 : rtab .any (opsOf Try.f22 1) = retain_older.T1 := by kernel_rfl
theorem retain_older.bits1 : waitsOk retain_older.T1.2 retain_older.B1 = true := by kernel_rfl
set_option maxHeartbeats 2000000 in
set_option maxRecDepth 100000 in
theorem retain_older.calls (k : Nat) (a0_0 : Int) (a0_1 : Int) (a0_2 : ByteArray) (a0_3 : ByteArray) (a0_4 : ByteArray) (a0_5 : Int) (a0_6 : Int) (a0_7 : Int) (a0_8 : Int) (a0_9 : Bool) (a0_10 : Int) (a0_11 : Int) (a0_12 : Int) (a0_13 : ByteArray) (a0_14 : Int) (a0_15 : Int) (a0_16 : ByteArray) (a0_17 : Int) (a0_18 : Int) (a0_19 : ByteArray) (a1_0 : Int) (a1_1 : Int) (a1_2 : ByteArray) (a1_3 : ByteArray) (a1_4 : ByteArray) (a1_5 : Int) (a1_6 : Int) (a1_7 : Int) (a1_8 : Int) (a1_9 : Bool) (a1_10 : Int) (a1_11 : Int) (a1_12 : Int) (a1_13 : ByteArray) (a1_14 : Int) (a1_15 : Int) (a1_16 : ByteArray) (a1_17 : Int) (a1_18 : Int) (a1_19 : ByteArray) (r : Int) (w : World) (h : retain_older.f k a0_0 a0_1 a0_2 a0_3 a0_4 a0_5 a0_6 a0_7 a0_8 a0_9 a0_10 a0_11 a0_12 a0_13 a0_14 a0_15 a0_16 a0_17 a0_18 a0_19 a1_0 a1_1 a1_2 a1_3 a1_4 a1_5 a1_6 a1_7 a1_8 a1_9 a1_10 a1_11 a1_12 a1_13 a1_14 a1_15 a1_16 a1_17 a1_18 a1_19 = some r) :
  Calls Try.prog 22 #[.agg #[.int .i64 a0_0, .int .i64 a0_1, .string a0_2, .string a0_3, .string a0_4, .int .i64 a0_5, .int .i64 a0_6, .int .i64 a0_7, .int .i64 a0_8, .bool a0_9, .int .i64 a0_10, .int .i64 a0_11, .int .i64 a0_12, .string a0_13, .int .i64 a0_14, .int .i64 a0_15, .string a0_16, .int .i64 a0_17, .int .i64 a0_18, .string a0_19], .agg #[.int .i64 a1_0, .int .i64 a1_1, .string a1_2, .string a1_3, .string a1_4, .int .i64 a1_5, .int .i64 a1_6, .int .i64 a1_7, .int .i64 a1_8, .bool a1_9, .int .i64 a1_10, .int .i64 a1_11, .int .i64 a1_12, .string a1_13, .int .i64 a1_14, .int .i64 a1_15, .string a1_16, .int .i64 a1_17, .int .i64 a1_18, .string a1_19]] w fun e w' => e = .returned (.int .i64 r) ∧ Below w.heap.size w w' := by
 have hu29 := Try.underlying29
 have HB := mkA (Below.refl w.heap.size w)
 have H : ((cmp_Compare_int64.f a0_5 a1_5).bind fun t121 => ((cmp_Compare_int.f a0_0 a1_0).bind fun t122 => ((cmp_Or_int.f k (([t121, t122] : List Int))).bind fun t126 => (some t126)))) = some r := h
 clear h
 replace H := Option.bind_eq_some_iff.mp H
 obtain ⟨t121, A30, H⟩ := H
 replace H : ((cmp_Compare_int.f a0_0 a1_0).bind fun t122 => ((cmp_Or_int.f k (([t121, t122] : List Int))).bind fun t126 => (some t126))) = some r := H
 have A3 := mkA A30
 clear A30
 replace H := Option.bind_eq_some_iff.mp H
 obtain ⟨t122, A40, H⟩ := H
 replace H : ((cmp_Or_int.f k (([t121, t122] : List Int))).bind fun t126 => (some t126)) = some r := H
 have A4 := mkA A40
 clear A40
 obtain ⟨y123, hy123⟩ : ∃ y_ : List Int, y_ = (([t121, t122] : List Int)) := ⟨_, rfl⟩
 replace H : ((cmp_Or_int.f k y123).bind fun t126 => (some t126)) = some r := by first | (rw [hy123]; with_reducible exact H) | (have H2_ := (Option.bind_some _ _).symm.trans H; rw [hy123]; with_reducible exact H2_) | (have H2_ := (Option.bind_some _ _).symm.trans H; with_reducible exact H2_) | with_reducible exact H | (rw [hy123]; exact H) | exact H
 have Ny123 := mkA hy123
 clear hy123
 replace H := Option.bind_eq_some_iff.mp H
 obtain ⟨t126, A50, H⟩ := H
 replace H : (some t126) = some r := H
 have A5 := mkA A50
 clear A50
 as_aux_lemma =>
  obtain rfl := Option.some.inj H
  go_enter Try.func22, Try.ntmps22
  try go_wp2_with (first | ((with_reducible refine gate_load (t := 29) rfl ?_); refine load_row3 (t := 29) (g := gb119) ?hg BK119.out ?ho ?hb Try.underlying29 rfl ?hs ?_; (case hg => rfl); (case ho => refine ⟨_, rfl, ?_⟩; first | (with_reducible rfl) | (go_simp; done)); (case hb => (with_reducible repeat (first | refine blk_drewN ?_ _ | refine blk_drew ?_ | refine blk_alloc ?_ _)); with_reducible exact BK119.out); (case hs => kernel_rfl)) | ((with_reducible refine gate_load (t := 29) rfl ?_); refine load_row3 (t := 29) (g := gb120) ?hg BK120.out ?ho ?hb Try.underlying29 rfl ?hs ?_; (case hg => rfl); (case ho => refine ⟨_, rfl, ?_⟩; first | (with_reducible rfl) | (go_simp; done)); (case hb => (with_reducible repeat (first | refine blk_drewN ?_ _ | refine blk_drew ?_ | refine blk_alloc ?_ _)); with_reducible exact BK120.out); (case hs => kernel_rfl)) | ((with_reducible refine gate_dst (N := 2) rfl ?_); refine box_event ?hg (N := 2) ?hd (cs := #[.int .i64 a0_0, .int .i64 a0_1, .string a0_2, .string a0_3, .string a0_4, .int .i64 a0_5, .int .i64 a0_6, .int .i64 a0_7, .int .i64 a0_8, .bool a0_9, .int .i64 a0_10, .int .i64 a0_11, .int .i64 a0_12, .string a0_13, .int .i64 a0_14, .int .i64 a0_15, .string a0_16, .int .i64 a0_17, .int .i64 a0_18, .string a0_19]) (t := 29) ?hr ?_; (case hd => rfl); (case hg => rfl); (case hr => first | (go_simp; done) | (go_simp; rfl)); intro gb119 hg w6 hbox hb; have n0_ := mkA (below_step (below_y HB.out) hb); have n1_ := mkA (hbox); have n2_ := mkA ((gz hg HB.out : w.heap.size ≤ gb119)); have n3_ := mkA ((gz hg HB.out : w.heap.size ≤ gb119)); clear HB; have HB := n0_; have BK119 := n1_; have GW119 := n2_; have GE119 := n3_; clear n0_ n1_ n2_ n3_; clear hb hbox hg) | ((with_reducible refine gate_dst (N := 3) rfl ?_); refine box_event ?hg (N := 3) ?hd (cs := #[.int .i64 a1_0, .int .i64 a1_1, .string a1_2, .string a1_3, .string a1_4, .int .i64 a1_5, .int .i64 a1_6, .int .i64 a1_7, .int .i64 a1_8, .bool a1_9, .int .i64 a1_10, .int .i64 a1_11, .int .i64 a1_12, .string a1_13, .int .i64 a1_14, .int .i64 a1_15, .string a1_16, .int .i64 a1_17, .int .i64 a1_18, .string a1_19]) (t := 29) ?hr ?_; (case hd => rfl); (case hg => rfl); (case hr => first | (go_simp; done) | (go_simp; rfl)); intro gb120 hg w7 hbox hb; have n0_ := mkA (blk_below (blk_y BK119.out) hb); have n1_ := mkA (below_step (below_y HB.out) hb); have n2_ := mkA (hbox); have n3_ := mkA ((gz hg HB.out : w.heap.size ≤ gb120)); have n4_ := mkA ((gz hg HB.out : w.heap.size ≤ gb120)); have n5_ := mkA ((gn hg BK119.out : gb119 ≠ gb120)); have n6_ := mkA ((gm hg BK119.out : gb120 ≠ gb119)); clear BK119; clear HB; have BK119 := n0_; have HB := n1_; have BK120 := n2_; have GW120 := n3_; have GE120 := n4_; have NB119_120 := n5_; have NB120_119 := n6_; clear n0_ n1_ n2_ n3_ n4_ n5_ n6_; clear hb hbox hg))
  have n0_ := mkA (blk_drew BK119.out)
  have n1_ := mkA (blk_drew BK120.out)
  have n2_ := mkA (below_drew1 HB.out)
  clear BK119 BK120 HB
  have BK119 := n0_
  have BK120 := n1_
  have HB := n2_
  clear n0_ n1_ n2_
  refine start_ (n := 13) (S := fun w' => w'.cell? ⟨gb119, 0, none⟩ = some (.int .i64 a0_0) ∧ w'.cell? ⟨gb119, 1, none⟩ = some (.int .i64 a0_1) ∧ w'.cell? ⟨gb119, 2, none⟩ = some (.string a0_2) ∧ w'.cell? ⟨gb119, 3, none⟩ = some (.string a0_3) ∧ w'.cell? ⟨gb119, 4, none⟩ = some (.string a0_4) ∧ w'.cell? ⟨gb119, 5, none⟩ = some (.int .i64 a0_5) ∧ w'.cell? ⟨gb119, 6, none⟩ = some (.int .i64 a0_6) ∧ w'.cell? ⟨gb119, 7, none⟩ = some (.int .i64 a0_7) ∧ w'.cell? ⟨gb119, 8, none⟩ = some (.int .i64 a0_8) ∧ w'.cell? ⟨gb119, 9, none⟩ = some (.bool a0_9) ∧ w'.cell? ⟨gb119, 10, none⟩ = some (.int .i64 a0_10) ∧ w'.cell? ⟨gb119, 11, none⟩ = some (.int .i64 a0_11) ∧ w'.cell? ⟨gb119, 12, none⟩ = some (.int .i64 a0_12) ∧ w'.cell? ⟨gb119, 13, none⟩ = some (.string a0_13) ∧ w'.cell? ⟨gb119, 14, none⟩ = some (.int .i64 a0_14) ∧ w'.cell? ⟨gb119, 15, none⟩ = some (.int .i64 a0_15) ∧ w'.cell? ⟨gb119, 16, none⟩ = some (.string a0_16) ∧ w'.cell? ⟨gb119, 17, none⟩ = some (.int .i64 a0_17) ∧ w'.cell? ⟨gb119, 18, none⟩ = some (.int .i64 a0_18) ∧ w'.cell? ⟨gb119, 19, none⟩ = some (.string a0_19) ∧ w'.cell? ⟨gb120, 0, none⟩ = some (.int .i64 a1_0) ∧ w'.cell? ⟨gb120, 1, none⟩ = some (.int .i64 a1_1) ∧ w'.cell? ⟨gb120, 2, none⟩ = some (.string a1_2) ∧ w'.cell? ⟨gb120, 3, none⟩ = some (.string a1_3) ∧ w'.cell? ⟨gb120, 4, none⟩ = some (.string a1_4) ∧ w'.cell? ⟨gb120, 5, none⟩ = some (.int .i64 a1_5) ∧ w'.cell? ⟨gb120, 6, none⟩ = some (.int .i64 a1_6) ∧ w'.cell? ⟨gb120, 7, none⟩ = some (.int .i64 a1_7) ∧ w'.cell? ⟨gb120, 8, none⟩ = some (.int .i64 a1_8) ∧ w'.cell? ⟨gb120, 9, none⟩ = some (.bool a1_9) ∧ w'.cell? ⟨gb120, 10, none⟩ = some (.int .i64 a1_10) ∧ w'.cell? ⟨gb120, 11, none⟩ = some (.int .i64 a1_11) ∧ w'.cell? ⟨gb120, 12, none⟩ = some (.int .i64 a1_12) ∧ w'.cell? ⟨gb120, 13, none⟩ = some (.string a1_13) ∧ w'.cell? ⟨gb120, 14, none⟩ = some (.int .i64 a1_14) ∧ w'.cell? ⟨gb120, 15, none⟩ = some (.int .i64 a1_15) ∧ w'.cell? ⟨gb120, 16, none⟩ = some (.string a1_16) ∧ w'.cell? ⟨gb120, 17, none⟩ = some (.int .i64 a1_17) ∧ w'.cell? ⟨gb120, 18, none⟩ = some (.int .i64 a1_18) ∧ w'.cell? ⟨gb120, 19, none⟩ = some (.string a1_19)) (ds := []) #[false, false, false, false, false, false, false, false, false, false, false, false, false] (by kernel_rfl) rfl rfl ⟨(blk_cell BK119.out 0).trans rfl, (blk_cell BK119.out 1).trans rfl, (blk_cell BK119.out 2).trans rfl, (blk_cell BK119.out 3).trans rfl, (blk_cell BK119.out 4).trans rfl, (blk_cell BK119.out 5).trans rfl, (blk_cell BK119.out 6).trans rfl, (blk_cell BK119.out 7).trans rfl, (blk_cell BK119.out 8).trans rfl, (blk_cell BK119.out 9).trans rfl, (blk_cell BK119.out 10).trans rfl, (blk_cell BK119.out 11).trans rfl, (blk_cell BK119.out 12).trans rfl, (blk_cell BK119.out 13).trans rfl, (blk_cell BK119.out 14).trans rfl, (blk_cell BK119.out 15).trans rfl, (blk_cell BK119.out 16).trans rfl, (blk_cell BK119.out 17).trans rfl, (blk_cell BK119.out 18).trans rfl, (blk_cell BK119.out 19).trans rfl, (blk_cell BK120.out 0).trans rfl, (blk_cell BK120.out 1).trans rfl, (blk_cell BK120.out 2).trans rfl, (blk_cell BK120.out 3).trans rfl, (blk_cell BK120.out 4).trans rfl, (blk_cell BK120.out 5).trans rfl, (blk_cell BK120.out 6).trans rfl, (blk_cell BK120.out 7).trans rfl, (blk_cell BK120.out 8).trans rfl, (blk_cell BK120.out 9).trans rfl, (blk_cell BK120.out 10).trans rfl, (blk_cell BK120.out 11).trans rfl, (blk_cell BK120.out 12).trans rfl, (blk_cell BK120.out 13).trans rfl, (blk_cell BK120.out 14).trans rfl, (blk_cell BK120.out 15).trans rfl, (blk_cell BK120.out 16).trans rfl, (blk_cell BK120.out 17).trans rfl, (blk_cell BK120.out 18).trans rfl, (blk_cell BK120.out 19).trans rfl⟩ (fun hHeld => ?_); refine with_tabW retain_older.tab1 retain_older.bits1 (fun HT_ HW_ => ?_)
  generalize w7.drew = w8 at BK119 BK120 HB hHeld ⊢
  refine pu 0 5 HT_ ?_
  refine pu 2 7 HT_ ?_
  refine pu 5 10 HT_ ?_
  refine pu 7 12 HT_ ?_
  refine tk 1 6 HT_ HW_ hHeld ?_
  refine tk 3 8 HT_ HW_ hHeld ?_
  refine tk 6 11 HT_ HW_ hHeld ?_
  refine tk 8 13 HT_ HW_ hHeld ?_
  refine one_ (i := 4) (N := some 9) #[true, true, true, true, true, true, true, true, true, false, false, false, false] rfl rfl (one_of HT_.out (by kernel_rfl)) (by decide) (fun K hK => ?_)
  refine goes_ Try.func28 (by kernel_rfl) rfl #[.int .i64 a0_5, .int .i64 a1_5] (by rfl) rfl rfl ca ?_
  with_reducible refine (cmp_Compare_int64.calls _ _ _ _ A3.out).mono ?_
  rintro e w' ⟨rfl, ⟨nd, rfl⟩⟩
  refine ⟨_, rfl, ?_⟩
  refine hK.out _ _ ⟨(blk_cell BK119.out 0).trans rfl, (blk_cell BK119.out 1).trans rfl, (blk_cell BK119.out 2).trans rfl, (blk_cell BK119.out 3).trans rfl, (blk_cell BK119.out 4).trans rfl, (blk_cell BK119.out 5).trans rfl, (blk_cell BK119.out 6).trans rfl, (blk_cell BK119.out 7).trans rfl, (blk_cell BK119.out 8).trans rfl, (blk_cell BK119.out 9).trans rfl, (blk_cell BK119.out 10).trans rfl, (blk_cell BK119.out 11).trans rfl, (blk_cell BK119.out 12).trans rfl, (blk_cell BK119.out 13).trans rfl, (blk_cell BK119.out 14).trans rfl, (blk_cell BK119.out 15).trans rfl, (blk_cell BK119.out 16).trans rfl, (blk_cell BK119.out 17).trans rfl, (blk_cell BK119.out 18).trans rfl, (blk_cell BK119.out 19).trans rfl, (blk_cell BK120.out 0).trans rfl, (blk_cell BK120.out 1).trans rfl, (blk_cell BK120.out 2).trans rfl, (blk_cell BK120.out 3).trans rfl, (blk_cell BK120.out 4).trans rfl, (blk_cell BK120.out 5).trans rfl, (blk_cell BK120.out 6).trans rfl, (blk_cell BK120.out 7).trans rfl, (blk_cell BK120.out 8).trans rfl, (blk_cell BK120.out 9).trans rfl, (blk_cell BK120.out 10).trans rfl, (blk_cell BK120.out 11).trans rfl, (blk_cell BK120.out 12).trans rfl, (blk_cell BK120.out 13).trans rfl, (blk_cell BK120.out 14).trans rfl, (blk_cell BK120.out 15).trans rfl, (blk_cell BK120.out 16).trans rfl, (blk_cell BK120.out 17).trans rfl, (blk_cell BK120.out 18).trans rfl, (blk_cell BK120.out 19).trans rfl⟩ (fun hHeld => ?_)
  clear hK K
  refine norm_ (a' := ?_) ?_ ?_
  rotate_left
  ·show Act.put _ (some 9) _ = _
   simp only [Act.put, sA, s0, sS, i64_w, i32_w]
   rfl
  refine one_ (i := 9) (N := some 14) #[true, true, true, true, true, true, true, true, true, true, false, false, false] rfl rfl (one_of HT_.out (by kernel_rfl)) (by decide) (fun K hK => ?_)
  refine goes_ Try.func29 (by kernel_rfl) rfl #[.int .i64 a0_0, .int .i64 a1_0] (by rfl) rfl rfl ca ?_
  with_reducible refine (cmp_Compare_int.calls _ _ _ _ A4.out).mono ?_
  rintro e w' ⟨rfl, ⟨nd, rfl⟩⟩
  refine ⟨_, rfl, ?_⟩
  refine hK.out _ _ ⟨(blk_cell BK119.out 0).trans rfl, (blk_cell BK119.out 1).trans rfl, (blk_cell BK119.out 2).trans rfl, (blk_cell BK119.out 3).trans rfl, (blk_cell BK119.out 4).trans rfl, (blk_cell BK119.out 5).trans rfl, (blk_cell BK119.out 6).trans rfl, (blk_cell BK119.out 7).trans rfl, (blk_cell BK119.out 8).trans rfl, (blk_cell BK119.out 9).trans rfl, (blk_cell BK119.out 10).trans rfl, (blk_cell BK119.out 11).trans rfl, (blk_cell BK119.out 12).trans rfl, (blk_cell BK119.out 13).trans rfl, (blk_cell BK119.out 14).trans rfl, (blk_cell BK119.out 15).trans rfl, (blk_cell BK119.out 16).trans rfl, (blk_cell BK119.out 17).trans rfl, (blk_cell BK119.out 18).trans rfl, (blk_cell BK119.out 19).trans rfl, (blk_cell BK120.out 0).trans rfl, (blk_cell BK120.out 1).trans rfl, (blk_cell BK120.out 2).trans rfl, (blk_cell BK120.out 3).trans rfl, (blk_cell BK120.out 4).trans rfl, (blk_cell BK120.out 5).trans rfl, (blk_cell BK120.out 6).trans rfl, (blk_cell BK120.out 7).trans rfl, (blk_cell BK120.out 8).trans rfl, (blk_cell BK120.out 9).trans rfl, (blk_cell BK120.out 10).trans rfl, (blk_cell BK120.out 11).trans rfl, (blk_cell BK120.out 12).trans rfl, (blk_cell BK120.out 13).trans rfl, (blk_cell BK120.out 14).trans rfl, (blk_cell BK120.out 15).trans rfl, (blk_cell BK120.out 16).trans rfl, (blk_cell BK120.out 17).trans rfl, (blk_cell BK120.out 18).trans rfl, (blk_cell BK120.out 19).trans rfl⟩ (fun hHeld => ?_)
  clear hK K
  refine norm_ (a' := ?_) ?_ ?_
  rotate_left
  ·show Act.put _ (some 14) _ = _
   simp only [Act.put, sA, s0, sS, i64_w, i32_w]
   rfl
  refine one_ (i := 10) (N := some 15) #[true, true, true, true, true, true, true, true, true, true, true, false, false] rfl rfl (one_of HT_.out (by kernel_rfl)) (by decide) (fun K hK => ?_)
  refine Kd.R_lit_step (Kd.int .i64) _ 3 ?hg (N := 15) ?hd (xs := ([t121, t122] : List Int)) (inner := [.int .i64 t121, .int .i64 t122]) (ok := fun _ => True) (okp := fun _ => True) ?hr ?hp (fun _ hk => hk) trivial (Below.refl _ _) (Nat.le_refl _) (by simp) ?_; (case hd => rfl); (case hg => rfl); (case hr => first | (go_simp; done) | (go_simp; rfl)); (case hp => exact (Reps.one (show Kd.M (Kd.int .i64) _ _ _ t121 [.int .i64 t121] from rfl) (Reps.one (show Kd.M (Kd.int .i64) _ _ _ t122 [.int .i64 t122] from rfl) (Reps.none _ _))))
  intro v124 w9 ho10 hb hg_ hnew_
  clear hg_ hnew_
  (first | rw [← Ny123.out] at ho10 | (simp only [Int.reduceToNat] at ho10; rw [← Ny123.out] at ho10))
  have n0_ := mkA (Kd.R_lower ho10 (below_size (below_y HB.out)))
  have n1_ := mkA (blk_below (blk_y BK119.out) hb)
  have n2_ := mkA (blk_below (blk_y BK120.out) hb)
  have n3_ := mkA (below_step (below_y HB.out) hb)
  clear BK119 BK120 HB
  have HO125 := n0_
  have BK119 := n1_
  have BK120 := n2_
  have HB := n3_
  clear n0_ n1_ n2_ n3_ hb ho10
  obtain ⟨Ao11, co11, eo11⟩ := Kd.R_slice HO125.out
  (first | subst eo11 | (injection eo11 with f1_ f2_ f3_; have f4_ := f1_.symm; have f5_ := f3_.symm; clear f1_ f2_ f3_; subst f4_; subst f5_))
  refine hK.out _ _ ⟨(blk_cell BK119.out 0).trans rfl, (blk_cell BK119.out 1).trans rfl, (blk_cell BK119.out 2).trans rfl, (blk_cell BK119.out 3).trans rfl, (blk_cell BK119.out 4).trans rfl, (blk_cell BK119.out 5).trans rfl, (blk_cell BK119.out 6).trans rfl, (blk_cell BK119.out 7).trans rfl, (blk_cell BK119.out 8).trans rfl, (blk_cell BK119.out 9).trans rfl, (blk_cell BK119.out 10).trans rfl, (blk_cell BK119.out 11).trans rfl, (blk_cell BK119.out 12).trans rfl, (blk_cell BK119.out 13).trans rfl, (blk_cell BK119.out 14).trans rfl, (blk_cell BK119.out 15).trans rfl, (blk_cell BK119.out 16).trans rfl, (blk_cell BK119.out 17).trans rfl, (blk_cell BK119.out 18).trans rfl, (blk_cell BK119.out 19).trans rfl, (blk_cell BK120.out 0).trans rfl, (blk_cell BK120.out 1).trans rfl, (blk_cell BK120.out 2).trans rfl, (blk_cell BK120.out 3).trans rfl, (blk_cell BK120.out 4).trans rfl, (blk_cell BK120.out 5).trans rfl, (blk_cell BK120.out 6).trans rfl, (blk_cell BK120.out 7).trans rfl, (blk_cell BK120.out 8).trans rfl, (blk_cell BK120.out 9).trans rfl, (blk_cell BK120.out 10).trans rfl, (blk_cell BK120.out 11).trans rfl, (blk_cell BK120.out 12).trans rfl, (blk_cell BK120.out 13).trans rfl, (blk_cell BK120.out 14).trans rfl, (blk_cell BK120.out 15).trans rfl, (blk_cell BK120.out 16).trans rfl, (blk_cell BK120.out 17).trans rfl, (blk_cell BK120.out 18).trans rfl, (blk_cell BK120.out 19).trans rfl⟩ (fun hHeld => ?_)
  clear hK K
  refine norm_ (a' := ?_) ?_ ?_
  rotate_left
  ·show Act.put _ (some 15) _ = _
   simp only [Act.put, sA, s0, sS, i64_w, i32_w]
   rfl
  refine one_ (i := 11) (N := some 16) #[true, true, true, true, true, true, true, true, true, true, true, true, false] rfl rfl (one_of HT_.out (by kernel_rfl)) (by decide) (fun K hK => ?_)
  refine goes_ Try.func27 (by kernel_rfl) rfl #[.slice Ao11 y123.length co11] (by rfl) rfl rfl ca ?_
  with_reducible refine (cmp_Or_int.calls _ _ _ _ _ _ ?side1 ?side2 A5.out).mono ?_
  (case side1 => exact Kd.C_y (Kd.R_reads' HO125.out).2.2)
  (case side2 => exact (Kd.R_reads' HO125.out).2.1)
  rintro e w' ⟨rfl, ⟨nd, rfl⟩⟩
  refine ⟨_, rfl, ?_⟩
  refine hK.out _ _ ⟨(blk_cell BK119.out 0).trans rfl, (blk_cell BK119.out 1).trans rfl, (blk_cell BK119.out 2).trans rfl, (blk_cell BK119.out 3).trans rfl, (blk_cell BK119.out 4).trans rfl, (blk_cell BK119.out 5).trans rfl, (blk_cell BK119.out 6).trans rfl, (blk_cell BK119.out 7).trans rfl, (blk_cell BK119.out 8).trans rfl, (blk_cell BK119.out 9).trans rfl, (blk_cell BK119.out 10).trans rfl, (blk_cell BK119.out 11).trans rfl, (blk_cell BK119.out 12).trans rfl, (blk_cell BK119.out 13).trans rfl, (blk_cell BK119.out 14).trans rfl, (blk_cell BK119.out 15).trans rfl, (blk_cell BK119.out 16).trans rfl, (blk_cell BK119.out 17).trans rfl, (blk_cell BK119.out 18).trans rfl, (blk_cell BK119.out 19).trans rfl, (blk_cell BK120.out 0).trans rfl, (blk_cell BK120.out 1).trans rfl, (blk_cell BK120.out 2).trans rfl, (blk_cell BK120.out 3).trans rfl, (blk_cell BK120.out 4).trans rfl, (blk_cell BK120.out 5).trans rfl, (blk_cell BK120.out 6).trans rfl, (blk_cell BK120.out 7).trans rfl, (blk_cell BK120.out 8).trans rfl, (blk_cell BK120.out 9).trans rfl, (blk_cell BK120.out 10).trans rfl, (blk_cell BK120.out 11).trans rfl, (blk_cell BK120.out 12).trans rfl, (blk_cell BK120.out 13).trans rfl, (blk_cell BK120.out 14).trans rfl, (blk_cell BK120.out 15).trans rfl, (blk_cell BK120.out 16).trans rfl, (blk_cell BK120.out 17).trans rfl, (blk_cell BK120.out 18).trans rfl, (blk_cell BK120.out 19).trans rfl⟩ (fun hHeld => ?_)
  clear hK K
  refine norm_ (a' := ?_) ?_ ?_
  rotate_left
  ·show Act.put _ (some 16) _ = _
   simp only [Act.put, sA, s0, sS, i64_w, i32_w]
   rfl
  refine pu 12 4 HT_ ?_
  refine done_ (done_of HT_.out (by kernel_rfl)) ?_
  try go_wp2_with (first | ((with_reducible refine gate_load (t := 29) rfl ?_); refine load_row3 (t := 29) (g := gb119) ?hg BK119.out ?ho ?hb Try.underlying29 rfl ?hs ?_; (case hg => rfl); (case ho => refine ⟨_, rfl, ?_⟩; first | (with_reducible rfl) | (go_simp; done)); (case hb => (with_reducible repeat (first | refine blk_drewN ?_ _ | refine blk_drew ?_ | refine blk_alloc ?_ _)); with_reducible exact BK119.out); (case hs => kernel_rfl)) | ((with_reducible refine gate_load (t := 29) rfl ?_); refine load_row3 (t := 29) (g := gb120) ?hg BK120.out ?ho ?hb Try.underlying29 rfl ?hs ?_; (case hg => rfl); (case ho => refine ⟨_, rfl, ?_⟩; first | (with_reducible rfl) | (go_simp; done)); (case hb => (with_reducible repeat (first | refine blk_drewN ?_ _ | refine blk_drew ?_ | refine blk_alloc ?_ _)); with_reducible exact BK120.out); (case hs => kernel_rfl)))
  go_ret
  exact ⟨by first | rfl | (simp [errW_none, errW_some] <;> rfl) | (simp [*, errW_none, errW_some] <;> rfl), by repeat (first | (with_reducible first | exact HB.out | apply below_alloc | apply pw_below_drewN | apply below_drew1 | refine below_set ?_ GE119.out | refine below_set ?_ GE120.out) | exact HB.out)⟩

end Go.Proofs.Ytcpojadlnpnbaaa.XRet
