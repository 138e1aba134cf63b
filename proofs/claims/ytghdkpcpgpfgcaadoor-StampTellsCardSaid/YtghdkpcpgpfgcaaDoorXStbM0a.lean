/- Texts of this work in one: printed walks of functions. -/
import Derived.Test.YtghdkpcpgpfgcaaDoorXStbW
import Derived.Test.YtghdkpcpgpfgcaaDoorProg
import Derived.Below
import Derived.Deep.Draws
import Derived.Deep.AppendLies
import Derived.Maps.AppendAt
import Derived.OwnWalk
import Derived.Laws.BytesArg
import Derived.Laws.MakeOwn
import Derived.Laws.OwnMore
import Derived.Deep.OwnRows
import Derived.Tactics
import Derived.Lib.ConvBytes
import Derived.Laws.Slices
import Derived.WalkKit
import Derived.KernelRfl
import Derived.RowKit3
import Derived.Deep.LoopGhost
import Derived.Deep.QuietTactic
import Derived.BigQuiet
import Derived.WideLaws
import Derived.Deep.DeepCutAuto
import Derived.Deep.CutBlock
import Derived.Deep.RegionHeld3
import Derived.Laws.Rows
import Derived.Lib.AppendStr
import Derived.ArgAppend
import Derived.Laws.IdiomCopy
import Derived.OrdersHeld
import Derived.Laws.BitsLemmas
import Derived.RowKit
import Derived.Defers
import Derived.Laws.Pointers
import Derived.Laws.LoneSync
import Derived.RegionTactic
import Derived.RegionCalls
import Derived.ChangeAlike
import Derived.Deep.RegionLaw
import Derived.Laws.CopyOwn
import Derived.Lib.SliceRun
import Derived.Lib.SlBytesConst
import Derived.Laws.Cover1
import Derived.Shelf.Small.Strs
import Derived.Shelf.Strings.SlTrimAscii
import Derived.Shelf.Strings.FieldsFuncGrows
import Derived.Shelf.Strings.OnBuilder
import Derived.Test.YtghdkpcpgpfgcaaDoorXl
namespace Go.Proofs.YtghdkpcpgpfgcaaDoor.XStb
open Go.RowKit Go.Proofs.YtghdkpcpgpfgcaaDoorW.PrintWords Go.Proofs.YtghdkpcpgpfgcaaDoorW.PrintLast Go.Proofs.YtghdkpcpgpfgcaaDoorW.PrintMore
attribute [local go_sem] max2_int min2_int max_two min_two max_three min_three max_four min_four   -- for this text's walks alone
set_option linter.unusedVariables false
set_option linter.unusedSimpArgs false
def errW : Option Int → Value
 | none => .nilIface
 | some c => .iface 0 (.int .i64 c)
theorem errW_none : errW none = .nilIface := rfl
theorem errW_some (c : Int) : errW (some c) = .iface 0 (.int .i64 c) := rfl

theorem info3 : (Tryd.prog.info? 3).map (fun i => (i.zero, i.size, i.bytes)) = some (some (.int .i64 0), 1, 8) := by kernel_rfl
theorem info5 : (Tryd.prog.info? 5).map (fun i => (i.zero, i.size, i.bytes)) = some (some (.int .u8 0), 1, 1) := by kernel_rfl
theorem info9 : (Tryd.prog.info? 9).map (fun i => (i.zero, i.size, i.bytes)) = some (some (.string ⟨#[]⟩), 1, 16) := by kernel_rfl
-- the values' own types
def rd_L2 (xs : List (List ByteArray)) (i : Int) : (List ByteArray) := xs.getD i.toNat ([] : List ByteArray)
theorem at_L2 {w : World} {A : Option Addr} {n : Nat} {xs : List (List ByteArray)} (h : Kd.C (Kd.slice 9 Kd.string) w A n xs) (i : Int) (h0 : 0 ≤ i) (h1 : i < n) : ∃ ad A0 c0, A = some ad ∧ w.cell? (ad.add i.toNat) = some (.slice A0 (rd_L2 xs i).length c0) ∧ (rd_L2 xs i).length ≤ c0 ∧ Kd.string.C w A0 (rd_L2 xs i).length (rd_L2 xs i) := by
 obtain ⟨ad, c, e, _, hK, hc0⟩ := Kd.C_get h ([] : List ByteArray) i h0 h1
 have hc : ∀ j u, c[j]? = some u → w.cell? (ad.add (i.toNat * 1 + j)) = some u := hc0
 obtain ⟨A0, c0, rfl, l0, g0⟩ := hK
 exact ⟨ad, A0, c0, e, by have hq := hc 0 _ rfl; rwa [Nat.mul_one, Nat.add_zero] at hq, l0, g0⟩

/-! #### struct type 22 -/
structure S22 where
 f0 : Int
 f1 : Int
def z22 : S22 := ⟨(0 : Int), (0 : Int)⟩
def k22 : Kd S22 := Kd.iso (Kd.pair (Kd.int .i64) (Kd.int .i64)) (fun x : S22 => (x.f0, x.f1))
theorem k22_open {w : World} {x : S22} {cs : List Value} (h : k22.K w x cs) : cs = [.int .i64 x.f0, .int .i64 x.f1] := by
 obtain ⟨_, _, rfl, rfl, rfl⟩ := h
 exact rfl
theorem k22_openM {w : World} {base : Nat} {ok : Nat → Prop} {x : S22} {cs : List Value} (h : k22.M w base ok x cs) : cs = [.int .i64 x.f0, .int .i64 x.f1] := by
 obtain ⟨_, _, rfl, rfl, rfl⟩ := h
 exact rfl
theorem k22_mk (w : World) (x : S22)  : k22.K w x [.int .i64 x.f0, .int .i64 x.f1] := ⟨[.int .i64 x.f0], [.int .i64 x.f1], rfl, rfl, rfl⟩
theorem k22_mkM (w : World) (base : Nat) (ok : Nat → Prop) (x : S22)  : k22.M w base ok x [.int .i64 x.f0, .int .i64 x.f1] := ⟨[.int .i64 x.f0], [.int .i64 x.f1], rfl, rfl, rfl⟩
theorem k22_mkF (W : World) (ok : Nat → Prop) (x : S22) : Kd.FK k22 W ok x [.int .i64 x.f0, .int .i64 x.f1] := fun W2 _ => k22_mk W2 x
def rd_T22 (xs : List S22) (i : Int) : S22 := xs.getD i.toNat z22
theorem at_T22 {w : World} {A : Option Addr} {n : Nat} {xs : List S22} (h : Kd.C k22 w A n xs) (i : Int) (h0 : 0 ≤ i) (h1 : i < n) : ∃ ad , A = some ad ∧ w.cell? (ad.add (i.toNat * 2)) = some (.int .i64 (rd_T22 xs i).f0) ∧ w.cell? ⟨(ad.add (i.toNat * 2)).block, (ad.add (i.toNat * 2)).off + 1, none⟩ = some (.int .i64 (rd_T22 xs i).f1) := by
 obtain ⟨ad, c, e, _, hK, hc0⟩ := Kd.C_get h z22 i h0 h1
 have hc : ∀ j u, c[j]? = some u → w.cell? (ad.add (i.toNat * 2 + j)) = some u := hc0
 obtain rfl := k22_open hK
 exact ⟨ad, e, hc 0 _ rfl, by rw [← add_field _ _ 1 (by omega)]; exact hc 1 _ rfl⟩

/-! ### stamp_leap: function 28 -/
def stamp_leap.f (a0 : Int) : Option (Bool) := if (Int.tmod a0 4) = 0 then (if (Int.tmod a0 100) = 0 then (some ((Int.tmod a0 400) == 0)) else (some true)) else (some false)
set_option maxHeartbeats 8000000 in
set_option maxRecDepth 100000 in
theorem stamp_leap.calls (a0 : Int) (r : Bool) (w : World) (h : stamp_leap.f a0 = some r) :
  Calls Tryd.prog 28 #[.int .i64 a0] w fun e w' => e = .returned (.bool r) ∧ Drawn0 w w' := by
 have H : (if (Int.tmod a0 4) = 0 then (if (Int.tmod a0 100) = 0 then (some ((Int.tmod a0 400) == 0)) else (some true)) else (some false)) = some r := h
 clear h
 by_cases c2 : (Int.tmod a0 4) = 0
 ·rw [if_pos c2] at H
  have c2b0 : ((Int.tmod a0 4) == 0) = true := beq_iff_eq.mpr c2
  have c2b1 : ((Int.tmod a0 4) != 0) = false := bne_eq_false_iff_eq.mpr c2
  clear c2
  by_cases c3 : (Int.tmod a0 100) = 0
  ·rw [if_pos c3] at H
   have c3b0 : ((Int.tmod a0 100) == 0) = true := beq_iff_eq.mpr c3
   have c3b1 : ((Int.tmod a0 100) != 0) = false := bne_eq_false_iff_eq.mpr c3
   clear c3
   obtain rfl := Option.some.inj H
   as_aux_lemma =>
    go_enter Tryd.func28, Tryd.ntmps28
    go_wp2
    go_ret
    exact ⟨by first | rfl | (simp; done) | (simp [*]; done), by repeat (first | exact Drawn0.refl _ | apply Drawn0.step)⟩
  ·rw [if_neg c3] at H
   have c3b0 : ((Int.tmod a0 100) == 0) = false := beq_eq_false_iff_ne.mpr c3
   have c3b1 : ((Int.tmod a0 100) != 0) = true := bne_iff_ne.mpr c3
   obtain rfl := Option.some.inj H
   as_aux_lemma =>
    go_enter Tryd.func28, Tryd.ntmps28
    go_wp2
    go_ret
    exact ⟨by first | rfl | (simp; done) | (simp [*]; done), by repeat (first | exact Drawn0.refl _ | apply Drawn0.step)⟩
 ·rw [if_neg c2] at H
  have c2b0 : ((Int.tmod a0 4) == 0) = false := beq_eq_false_iff_ne.mpr c2
  have c2b1 : ((Int.tmod a0 4) != 0) = true := bne_iff_ne.mpr c2
  obtain rfl := Option.some.inj H
  as_aux_lemma =>
   go_enter Tryd.func28, Tryd.ntmps28
   go_wp2
   go_ret
   exact ⟨by first | rfl | (simp; done) | (simp [*]; done), by repeat (first | exact Drawn0.refl _ | apply Drawn0.step)⟩

/-! ### stamp_Days: function 10 -/
def stamp_Days.leap (y : Int) : Bool := (y.tmod 4 == 0) && ((y.tmod 100 != 0) || (y.tmod 400 == 0))
def stamp_Days.tab : List Int := [31, 28, 31, 30, 31, 30, 31, 31, 30, 31, 30, 31]
def stamp_Days.days (a0 a1 : Int) : Int := if a0 < 1970 ∨ a0 > 2199 ∨ a1 < 1 ∨ a1 > 12 then 0 else if a1 = 2 ∧ stamp_Days.leap a0 = true then 29 else stamp_Days.tab.getD (a1 - 1).toNat 0
def stamp_Days.f (a0 : Int) (a1 : Int) : Option Int := some (stamp_Days.days a0 a1)
theorem stamp_Days.leap_f (a0 : Int) : stamp_leap.f a0 = some (stamp_Days.leap a0) := by
 unfold stamp_leap.f stamp_Days.leap
 by_cases h1 : Int.tmod a0 4 = 0
 ·rw [if_pos h1, beq_iff_eq.mpr h1, Bool.true_and]
  by_cases h2 : Int.tmod a0 100 = 0
  ·rw [if_pos h2, bne_eq_false_iff_eq.mpr h2, Bool.false_or]
  ·rw [if_neg h2, bne_iff_ne.mpr h2, Bool.true_or]
 ·rw [if_neg h1, beq_eq_false_iff_ne.mpr h1, Bool.false_and]
set_option maxHeartbeats 1000000 in
set_option maxRecDepth 100000 in
theorem stamp_Days.calls (a0 : Int) (a1 : Int) (r : Int) (w : World) (h : stamp_Days.f a0 a1 = some r) :
  Calls Tryd.prog 10 #[.int .i64 a0, .int .i64 a1] w fun e w' => e = .returned (.int .i64 r) ∧ Below w.heap.size w w' := by
 obtain rfl := Option.some.inj h
 clear h
 have HB := mkA (Below.refl w.heap.size w)
 have HL := mkA (stamp_Days.leap_f a0)
 by_cases c1 : a0 < 1970
 ·rw [show stamp_Days.days a0 a1 = 0 from if_pos (Or.inl c1)]
  have c1b := decide_eq_true c1
  focus
   go_enter Tryd.func10, Tryd.ntmps10
   go_wp2
   go_ret
   exact ⟨by first | rfl | (simp; done) | (simp [*]; done), below_y HB.out⟩
 have c1b : decide (a0 < 1970) = false := decide_eq_false c1
 by_cases c2 : a0 > 2199
 ·rw [show stamp_Days.days a0 a1 = 0 from if_pos (Or.inr (Or.inl c2))]
  have c2b : decide (2199 < a0) = true := decide_eq_true c2
  focus
   go_enter Tryd.func10, Tryd.ntmps10
   go_wp2
   go_ret
   exact ⟨by first | rfl | (simp; done) | (simp [*]; done), below_y HB.out⟩
 have c2b : decide (2199 < a0) = false := decide_eq_false c2
 by_cases c3 : a1 < 1
 ·rw [show stamp_Days.days a0 a1 = 0 from if_pos (Or.inr (Or.inr (Or.inl c3)))]
  have c3b : decide (a1 < 1) = true := decide_eq_true c3
  focus
   go_enter Tryd.func10, Tryd.ntmps10
   go_wp2
   go_ret
   exact ⟨by first | rfl | (simp; done) | (simp [*]; done), below_y HB.out⟩
 by_cases c4 : a1 > 12
 ·rw [show stamp_Days.days a0 a1 = 0 from if_pos (Or.inr (Or.inr (Or.inr c4)))]
  have c3b : decide (a1 < 1) = false := decide_eq_false c3
  have c4b : decide (12 < a1) = true := decide_eq_true c4
  focus
   go_enter Tryd.func10, Tryd.ntmps10
   go_wp2
   go_ret
   exact ⟨by first | rfl | (simp; done) | (simp [*]; done), below_y HB.out⟩
 by_cases e : a1 = 2
 ·subst e
  by_cases hl : stamp_Days.leap a0 = true
  ·have hv : stamp_Days.days a0 2 = 29 := by
    unfold stamp_Days.days
    rw [if_neg (by omega), if_pos (show (2 : Int) = 2 ∧ stamp_Days.leap a0 = true from ⟨rfl, hl⟩)]
   rw [hv]
   rw [hl] at HL
   clear hl hv
   focus
    go_enter Tryd.func10, Tryd.ntmps10
    go_wp2_with (first | ((with_reducible refine gate_dst (N := 5) rfl ?_); refine box_event ?hg (N := 5) ?hd (cs := #[.int .i64 0, .int .i64 0, .int .i64 0, .int .i64 0, .int .i64 0, .int .i64 0, .int .i64 0, .int .i64 0, .int .i64 0, .int .i64 0, .int .i64 0, .int .i64 0]) (t := 61) ?hr ?_; (case hd => rfl); (case hg => rfl); (case hr => first | (go_simp; done) | (go_simp; rfl)); intro gb hg w1 hbox hb; have n0_ := mkA (below_step (below_y HB.out) hb); have n1_ := mkA (hbox); have n2_ := mkA ((gz hg HB.out : w.heap.size ≤ gb)); clear HB; have HB := n0_; have BK := n1_; have GE := n2_; clear n0_ n1_ n2_; clear hb hbox hg) | ((with_reducible refine gate_store (t := 61) (p := 5) rfl ?_); refine store_whole2 (t := 61) (g := gb) ?hg ?hn (cells := #[.int .i64 31, .int .i64 28, .int .i64 31, .int .i64 30, .int .i64 31, .int .i64 30, .int .i64 31, .int .i64 31, .int .i64 30, .int .i64 31, .int .i64 30, .int .i64 31]) ?ho (blk_y BK.out) (by kernel_rfl) rfl ?h1 ?_; (case hg => rfl); (case hn => rfl); (case ho => refine ⟨_, _, rfl, ?_, ?_⟩; all_goals (first | (with_reducible rfl) | (go_simp; done) | rfl | (go_simp; rfl))); (case h1 => first | rfl | simp [Value.oneCell']); intro w2 hw; have n0_ := mkA ((by rw [hw]; exact setRow_heap _ _ _ _ _ _ (blk_y BK.out) : w2.heap[gb]? = some (.cells #[.int .i64 31, .int .i64 28, .int .i64 31, .int .i64 30, .int .i64 31, .int .i64 30, .int .i64 31, .int .i64 31, .int .i64 30, .int .i64 31, .int .i64 30, .int .i64 31] 61 (0, 0)))); have n1_ := mkA ((by rw [hw]; exact below_setRow (below_y HB.out) GE.out _ : Below w.heap.size w w2)); clear BK; clear HB; have BK := n0_; have HB := n1_; clear n0_ n1_; clear hw; have hcz_0 := bc BK.out 0 (.int .i64 31) rfl; have hcz_1 := bc BK.out 1 (.int .i64 28) rfl; have hcz_2 := bc BK.out 2 (.int .i64 31) rfl; have hcz_3 := bc BK.out 3 (.int .i64 30) rfl; have hcz_4 := bc BK.out 4 (.int .i64 31) rfl; have hcz_5 := bc BK.out 5 (.int .i64 30) rfl; have hcz_6 := bc BK.out 6 (.int .i64 31) rfl; have hcz_7 := bc BK.out 7 (.int .i64 31) rfl; have hcz_8 := bc BK.out 8 (.int .i64 30) rfl; have hcz_9 := bc BK.out 9 (.int .i64 31) rfl; have hcz_10 := bc BK.out 10 (.int .i64 30) rfl; have hcz_11 := bc BK.out 11 (.int .i64 31) rfl) | (go_at_call 28; (with_reducible refine (stamp_leap.calls a0 _ _ HL.out).mono ?_); rintro e w3 ⟨rfl, hd⟩; have hb := Drawn0.below hd; have n0_ := mkA (blk_below (blk_y BK.out) hb); have n1_ := mkA (below_step (below_y HB.out) hb); clear BK; clear HB; have BK := n0_; have HB := n1_; clear n0_ n1_; (try clear hb); (try clear hd); (try clear hcz_0); have hcz_0 := bc BK.out 0 (.int .i64 31) rfl; (try clear hcz_1); have hcz_1 := bc BK.out 1 (.int .i64 28) rfl; (try clear hcz_2); have hcz_2 := bc BK.out 2 (.int .i64 31) rfl; (try clear hcz_3); have hcz_3 := bc BK.out 3 (.int .i64 30) rfl; (try clear hcz_4); have hcz_4 := bc BK.out 4 (.int .i64 31) rfl; (try clear hcz_5); have hcz_5 := bc BK.out 5 (.int .i64 30) rfl; (try clear hcz_6); have hcz_6 := bc BK.out 6 (.int .i64 31) rfl; (try clear hcz_7); have hcz_7 := bc BK.out 7 (.int .i64 31) rfl; (try clear hcz_8); have hcz_8 := bc BK.out 8 (.int .i64 30) rfl; (try clear hcz_9); have hcz_9 := bc BK.out 9 (.int .i64 31) rfl; (try clear hcz_10); have hcz_10 := bc BK.out 10 (.int .i64 30) rfl; (try clear hcz_11); have hcz_11 := bc BK.out 11 (.int .i64 31) rfl))
    go_ret
    exact ⟨by first | rfl | (simp; done) | (simp [*]; done), below_y HB.out⟩
  ·have hv : stamp_Days.days a0 2 = 28 := by
    unfold stamp_Days.days
    rw [if_neg (by omega), if_neg (show ¬((2 : Int) = 2 ∧ stamp_Days.leap a0 = true) from fun h => hl h.2)]
    rfl
   rw [hv]
   rw [Bool.eq_false_iff.mpr hl] at HL
   clear hl hv
   focus
    go_enter Tryd.func10, Tryd.ntmps10
    go_wp2_with (first | ((with_reducible refine gate_dst (N := 5) rfl ?_); refine box_event ?hg (N := 5) ?hd (cs := #[.int .i64 0, .int .i64 0, .int .i64 0, .int .i64 0, .int .i64 0, .int .i64 0, .int .i64 0, .int .i64 0, .int .i64 0, .int .i64 0, .int .i64 0, .int .i64 0]) (t := 61) ?hr ?_; (case hd => rfl); (case hg => rfl); (case hr => first | (go_simp; done) | (go_simp; rfl)); intro gb hg w1 hbox hb; have n0_ := mkA (below_step (below_y HB.out) hb); have n1_ := mkA (hbox); have n2_ := mkA ((gz hg HB.out : w.heap.size ≤ gb)); clear HB; have HB := n0_; have BK := n1_; have GE := n2_; clear n0_ n1_ n2_; clear hb hbox hg) | ((with_reducible refine gate_store (t := 61) (p := 5) rfl ?_); refine store_whole2 (t := 61) (g := gb) ?hg ?hn (cells := #[.int .i64 31, .int .i64 28, .int .i64 31, .int .i64 30, .int .i64 31, .int .i64 30, .int .i64 31, .int .i64 31, .int .i64 30, .int .i64 31, .int .i64 30, .int .i64 31]) ?ho (blk_y BK.out) (by kernel_rfl) rfl ?h1 ?_; (case hg => rfl); (case hn => rfl); (case ho => refine ⟨_, _, rfl, ?_, ?_⟩; all_goals (first | (with_reducible rfl) | (go_simp; done) | rfl | (go_simp; rfl))); (case h1 => first | rfl | simp [Value.oneCell']); intro w2 hw; have n0_ := mkA ((by rw [hw]; exact setRow_heap _ _ _ _ _ _ (blk_y BK.out) : w2.heap[gb]? = some (.cells #[.int .i64 31, .int .i64 28, .int .i64 31, .int .i64 30, .int .i64 31, .int .i64 30, .int .i64 31, .int .i64 31, .int .i64 30, .int .i64 31, .int .i64 30, .int .i64 31] 61 (0, 0)))); have n1_ := mkA ((by rw [hw]; exact below_setRow (below_y HB.out) GE.out _ : Below w.heap.size w w2)); clear BK; clear HB; have BK := n0_; have HB := n1_; clear n0_ n1_; clear hw; have hcz_0 := bc BK.out 0 (.int .i64 31) rfl; have hcz_1 := bc BK.out 1 (.int .i64 28) rfl; have hcz_2 := bc BK.out 2 (.int .i64 31) rfl; have hcz_3 := bc BK.out 3 (.int .i64 30) rfl; have hcz_4 := bc BK.out 4 (.int .i64 31) rfl; have hcz_5 := bc BK.out 5 (.int .i64 30) rfl; have hcz_6 := bc BK.out 6 (.int .i64 31) rfl; have hcz_7 := bc BK.out 7 (.int .i64 31) rfl; have hcz_8 := bc BK.out 8 (.int .i64 30) rfl; have hcz_9 := bc BK.out 9 (.int .i64 31) rfl; have hcz_10 := bc BK.out 10 (.int .i64 30) rfl; have hcz_11 := bc BK.out 11 (.int .i64 31) rfl) | (go_at_call 28; (with_reducible refine (stamp_leap.calls a0 _ _ HL.out).mono ?_); rintro e w3 ⟨rfl, hd⟩; have hb := Drawn0.below hd; have n0_ := mkA (blk_below (blk_y BK.out) hb); have n1_ := mkA (below_step (below_y HB.out) hb); clear BK; clear HB; have BK := n0_; have HB := n1_; clear n0_ n1_; (try clear hb); (try clear hd); (try clear hcz_0); have hcz_0 := bc BK.out 0 (.int .i64 31) rfl; (try clear hcz_1); have hcz_1 := bc BK.out 1 (.int .i64 28) rfl; (try clear hcz_2); have hcz_2 := bc BK.out 2 (.int .i64 31) rfl; (try clear hcz_3); have hcz_3 := bc BK.out 3 (.int .i64 30) rfl; (try clear hcz_4); have hcz_4 := bc BK.out 4 (.int .i64 31) rfl; (try clear hcz_5); have hcz_5 := bc BK.out 5 (.int .i64 30) rfl; (try clear hcz_6); have hcz_6 := bc BK.out 6 (.int .i64 31) rfl; (try clear hcz_7); have hcz_7 := bc BK.out 7 (.int .i64 31) rfl; (try clear hcz_8); have hcz_8 := bc BK.out 8 (.int .i64 30) rfl; (try clear hcz_9); have hcz_9 := bc BK.out 9 (.int .i64 31) rfl; (try clear hcz_10); have hcz_10 := bc BK.out 10 (.int .i64 30) rfl; (try clear hcz_11); have hcz_11 := bc BK.out 11 (.int .i64 31) rfl))
    go_ret
    exact ⟨by first | rfl | (simp; done) | (simp [*]; done), below_y HB.out⟩
 by_cases e : a1 = 1
 ·subst e
  have hv : stamp_Days.days a0 1 = 31 := by
   unfold stamp_Days.days
   rw [if_neg (by omega), if_neg (show ¬((1 : Int) = 2 ∧ stamp_Days.leap a0 = true) from fun h => absurd h.1 (by decide))]
   rfl
  rw [hv]
  clear hv
  focus
   go_enter Tryd.func10, Tryd.ntmps10
   go_wp2_with (first | ((with_reducible refine gate_dst (N := 5) rfl ?_); refine box_event ?hg (N := 5) ?hd (cs := #[.int .i64 0, .int .i64 0, .int .i64 0, .int .i64 0, .int .i64 0, .int .i64 0, .int .i64 0, .int .i64 0, .int .i64 0, .int .i64 0, .int .i64 0, .int .i64 0]) (t := 61) ?hr ?_; (case hd => rfl); (case hg => rfl); (case hr => first | (go_simp; done) | (go_simp; rfl)); intro gb hg w1 hbox hb; have n0_ := mkA (below_step (below_y HB.out) hb); have n1_ := mkA (hbox); have n2_ := mkA ((gz hg HB.out : w.heap.size ≤ gb)); clear HB; have HB := n0_; have BK := n1_; have GE := n2_; clear n0_ n1_ n2_; clear hb hbox hg) | ((with_reducible refine gate_store (t := 61) (p := 5) rfl ?_); refine store_whole2 (t := 61) (g := gb) ?hg ?hn (cells := #[.int .i64 31, .int .i64 28, .int .i64 31, .int .i64 30, .int .i64 31, .int .i64 30, .int .i64 31, .int .i64 31, .int .i64 30, .int .i64 31, .int .i64 30, .int .i64 31]) ?ho (blk_y BK.out) (by kernel_rfl) rfl ?h1 ?_; (case hg => rfl); (case hn => rfl); (case ho => refine ⟨_, _, rfl, ?_, ?_⟩; all_goals (first | (with_reducible rfl) | (go_simp; done) | rfl | (go_simp; rfl))); (case h1 => first | rfl | simp [Value.oneCell']); intro w2 hw; have n0_ := mkA ((by rw [hw]; exact setRow_heap _ _ _ _ _ _ (blk_y BK.out) : w2.heap[gb]? = some (.cells #[.int .i64 31, .int .i64 28, .int .i64 31, .int .i64 30, .int .i64 31, .int .i64 30, .int .i64 31, .int .i64 31, .int .i64 30, .int .i64 31, .int .i64 30, .int .i64 31] 61 (0, 0)))); have n1_ := mkA ((by rw [hw]; exact below_setRow (below_y HB.out) GE.out _ : Below w.heap.size w w2)); clear BK; clear HB; have BK := n0_; have HB := n1_; clear n0_ n1_; clear hw; have hcz_0 := bc BK.out 0 (.int .i64 31) rfl; have hcz_1 := bc BK.out 1 (.int .i64 28) rfl; have hcz_2 := bc BK.out 2 (.int .i64 31) rfl; have hcz_3 := bc BK.out 3 (.int .i64 30) rfl; have hcz_4 := bc BK.out 4 (.int .i64 31) rfl; have hcz_5 := bc BK.out 5 (.int .i64 30) rfl; have hcz_6 := bc BK.out 6 (.int .i64 31) rfl; have hcz_7 := bc BK.out 7 (.int .i64 31) rfl; have hcz_8 := bc BK.out 8 (.int .i64 30) rfl; have hcz_9 := bc BK.out 9 (.int .i64 31) rfl; have hcz_10 := bc BK.out 10 (.int .i64 30) rfl; have hcz_11 := bc BK.out 11 (.int .i64 31) rfl))
   go_ret
   exact ⟨by first | rfl | (simp; done) | (simp [*]; done), below_y HB.out⟩
 by_cases e : a1 = 3
 ·subst e
  have hv : stamp_Days.days a0 3 = 31 := by
   unfold stamp_Days.days
   rw [if_neg (by omega), if_neg (show ¬((3 : Int) = 2 ∧ stamp_Days.leap a0 = true) from fun h => absurd h.1 (by decide))]
   rfl
  rw [hv]
  clear hv
  focus
   go_enter Tryd.func10, Tryd.ntmps10
   go_wp2_with (first | ((with_reducible refine gate_dst (N := 5) rfl ?_); refine box_event ?hg (N := 5) ?hd (cs := #[.int .i64 0, .int .i64 0, .int .i64 0, .int .i64 0, .int .i64 0, .int .i64 0, .int .i64 0, .int .i64 0, .int .i64 0, .int .i64 0, .int .i64 0, .int .i64 0]) (t := 61) ?hr ?_; (case hd => rfl); (case hg => rfl); (case hr => first | (go_simp; done) | (go_simp; rfl)); intro gb hg w1 hbox hb; have n0_ := mkA (below_step (below_y HB.out) hb); have n1_ := mkA (hbox); have n2_ := mkA ((gz hg HB.out : w.heap.size ≤ gb)); clear HB; have HB := n0_; have BK := n1_; have GE := n2_; clear n0_ n1_ n2_; clear hb hbox hg) | ((with_reducible refine gate_store (t := 61) (p := 5) rfl ?_); refine store_whole2 (t := 61) (g := gb) ?hg ?hn (cells := #[.int .i64 31, .int .i64 28, .int .i64 31, .int .i64 30, .int .i64 31, .int .i64 30, .int .i64 31, .int .i64 31, .int .i64 30, .int .i64 31, .int .i64 30, .int .i64 31]) ?ho (blk_y BK.out) (by kernel_rfl) rfl ?h1 ?_; (case hg => rfl); (case hn => rfl); (case ho => refine ⟨_, _, rfl, ?_, ?_⟩; all_goals (first | (with_reducible rfl) | (go_simp; done) | rfl | (go_simp; rfl))); (case h1 => first | rfl | simp [Value.oneCell']); intro w2 hw; have n0_ := mkA ((by rw [hw]; exact setRow_heap _ _ _ _ _ _ (blk_y BK.out) : w2.heap[gb]? = some (.cells #[.int .i64 31, .int .i64 28, .int .i64 31, .int .i64 30, .int .i64 31, .int .i64 30, .int .i64 31, .int .i64 31, .int .i64 30, .int .i64 31, .int .i64 30, .int .i64 31] 61 (0, 0)))); have n1_ := mkA ((by rw [hw]; exact below_setRow (below_y HB.out) GE.out _ : Below w.heap.size w w2)); clear BK; clear HB; have BK := n0_; have HB := n1_; clear n0_ n1_; clear hw; have hcz_0 := bc BK.out 0 (.int .i64 31) rfl; have hcz_1 := bc BK.out 1 (.int .i64 28) rfl; have hcz_2 := bc BK.out 2 (.int .i64 31) rfl; have hcz_3 := bc BK.out 3 (.int .i64 30) rfl; have hcz_4 := bc BK.out 4 (.int .i64 31) rfl; have hcz_5 := bc BK.out 5 (.int .i64 30) rfl; have hcz_6 := bc BK.out 6 (.int .i64 31) rfl; have hcz_7 := bc BK.out 7 (.int .i64 31) rfl; have hcz_8 := bc BK.out 8 (.int .i64 30) rfl; have hcz_9 := bc BK.out 9 (.int .i64 31) rfl; have hcz_10 := bc BK.out 10 (.int .i64 30) rfl; have hcz_11 := bc BK.out 11 (.int .i64 31) rfl))
   go_ret
   exact ⟨by first | rfl | (simp; done) | (simp [*]; done), below_y HB.out⟩
 by_cases e : a1 = 4
 ·subst e
  have hv : stamp_Days.days a0 4 = 30 := by
   unfold stamp_Days.days
   rw [if_neg (by omega), if_neg (show ¬((4 : Int) = 2 ∧ stamp_Days.leap a0 = true) from fun h => absurd h.1 (by decide))]
   rfl
  rw [hv]
  clear hv
  focus
   go_enter Tryd.func10, Tryd.ntmps10
   go_wp2_with (first | ((with_reducible refine gate_dst (N := 5) rfl ?_); refine box_event ?hg (N := 5) ?hd (cs := #[.int .i64 0, .int .i64 0, .int .i64 0, .int .i64 0, .int .i64 0, .int .i64 0, .int .i64 0, .int .i64 0, .int .i64 0, .int .i64 0, .int .i64 0, .int .i64 0]) (t := 61) ?hr ?_; (case hd => rfl); (case hg => rfl); (case hr => first | (go_simp; done) | (go_simp; rfl)); intro gb hg w1 hbox hb; have n0_ := mkA (below_step (below_y HB.out) hb); have n1_ := mkA (hbox); have n2_ := mkA ((gz hg HB.out : w.heap.size ≤ gb)); clear HB; have HB := n0_; have BK := n1_; have GE := n2_; clear n0_ n1_ n2_; clear hb hbox hg) | ((with_reducible refine gate_store (t := 61) (p := 5) rfl ?_); refine store_whole2 (t := 61) (g := gb) ?hg ?hn (cells := #[.int .i64 31, .int .i64 28, .int .i64 31, .int .i64 30, .int .i64 31, .int .i64 30, .int .i64 31, .int .i64 31, .int .i64 30, .int .i64 31, .int .i64 30, .int .i64 31]) ?ho (blk_y BK.out) (by kernel_rfl) rfl ?h1 ?_; (case hg => rfl); (case hn => rfl); (case ho => refine ⟨_, _, rfl, ?_, ?_⟩; all_goals (first | (with_reducible rfl) | (go_simp; done) | rfl | (go_simp; rfl))); (case h1 => first | rfl | simp [Value.oneCell']); intro w2 hw; have n0_ := mkA ((by rw [hw]; exact setRow_heap _ _ _ _ _ _ (blk_y BK.out) : w2.heap[gb]? = some (.cells #[.int .i64 31, .int .i64 28, .int .i64 31, .int .i64 30, .int .i64 31, .int .i64 30, .int .i64 31, .int .i64 31, .int .i64 30, .int .i64 31, .int .i64 30, .int .i64 31] 61 (0, 0)))); have n1_ := mkA ((by rw [hw]; exact below_setRow (below_y HB.out) GE.out _ : Below w.heap.size w w2)); clear BK; clear HB; have BK := n0_; have HB := n1_; clear n0_ n1_; clear hw; have hcz_0 := bc BK.out 0 (.int .i64 31) rfl; have hcz_1 := bc BK.out 1 (.int .i64 28) rfl; have hcz_2 := bc BK.out 2 (.int .i64 31) rfl; have hcz_3 := bc BK.out 3 (.int .i64 30) rfl; have hcz_4 := bc BK.out 4 (.int .i64 31) rfl; have hcz_5 := bc BK.out 5 (.int .i64 30) rfl; have hcz_6 := bc BK.out 6 (.int .i64 31) rfl; have hcz_7 := bc BK.out 7 (.int .i64 31) rfl; have hcz_8 := bc BK.out 8 (.int .i64 30) rfl; have hcz_9 := bc BK.out 9 (.int .i64 31) rfl; have hcz_10 := bc BK.out 10 (.int .i64 30) rfl; have hcz_11 := bc BK.out 11 (.int .i64 31) rfl))
   go_ret
   exact ⟨by first | rfl | (simp; done) | (simp [*]; done), below_y HB.out⟩
 by_cases e : a1 = 5
 ·subst e
  have hv : stamp_Days.days a0 5 = 31 := by
   unfold stamp_Days.days
   rw [if_neg (by omega), if_neg (show ¬((5 : Int) = 2 ∧ stamp_Days.leap a0 = true) from fun h => absurd h.1 (by decide))]
   rfl
  rw [hv]
  clear hv
  focus
   go_enter Tryd.func10, Tryd.ntmps10
   go_wp2_with (first | ((with_reducible refine gate_dst (N := 5) rfl ?_); refine box_event ?hg (N := 5) ?hd (cs := #[.int .i64 0, .int .i64 0, .int .i64 0, .int .i64 0, .int .i64 0, .int .i64 0, .int .i64 0, .int .i64 0, .int .i64 0, .int .i64 0, .int .i64 0, .int .i64 0]) (t := 61) ?hr ?_; (case hd => rfl); (case hg => rfl); (case hr => first | (go_simp; done) | (go_simp; rfl)); intro gb hg w1 hbox hb; have n0_ := mkA (below_step (below_y HB.out) hb); have n1_ := mkA (hbox); have n2_ := mkA ((gz hg HB.out : w.heap.size ≤ gb)); clear HB; have HB := n0_; have BK := n1_; have GE := n2_; clear n0_ n1_ n2_; clear hb hbox hg) | ((with_reducible refine gate_store (t := 61) (p := 5) rfl ?_); refine store_whole2 (t := 61) (g := gb) ?hg ?hn (cells := #[.int .i64 31, .int .i64 28, .int .i64 31, .int .i64 30, .int .i64 31, .int .i64 30, .int .i64 31, .int .i64 31, .int .i64 30, .int .i64 31, .int .i64 30, .int .i64 31]) ?ho (blk_y BK.out) (by kernel_rfl) rfl ?h1 ?_; (case hg => rfl); (case hn => rfl); (case ho => refine ⟨_, _, rfl, ?_, ?_⟩; all_goals (first | (with_reducible rfl) | (go_simp; done) | rfl | (go_simp; rfl))); (case h1 => first | rfl | simp [Value.oneCell']); intro w2 hw; have n0_ := mkA ((by rw [hw]; exact setRow_heap _ _ _ _ _ _ (blk_y BK.out) : w2.heap[gb]? = some (.cells #[.int .i64 31, .int .i64 28, .int .i64 31, .int .i64 30, .int .i64 31, .int .i64 30, .int .i64 31, .int .i64 31, .int .i64 30, .int .i64 31, .int .i64 30, .int .i64 31] 61 (0, 0)))); have n1_ := mkA ((by rw [hw]; exact below_setRow (below_y HB.out) GE.out _ : Below w.heap.size w w2)); clear BK; clear HB; have BK := n0_; have HB := n1_; clear n0_ n1_; clear hw; have hcz_0 := bc BK.out 0 (.int .i64 31) rfl; have hcz_1 := bc BK.out 1 (.int .i64 28) rfl; have hcz_2 := bc BK.out 2 (.int .i64 31) rfl; have hcz_3 := bc BK.out 3 (.int .i64 30) rfl; have hcz_4 := bc BK.out 4 (.int .i64 31) rfl; have hcz_5 := bc BK.out 5 (.int .i64 30) rfl; have hcz_6 := bc BK.out 6 (.int .i64 31) rfl; have hcz_7 := bc BK.out 7 (.int .i64 31) rfl; have hcz_8 := bc BK.out 8 (.int .i64 30) rfl; have hcz_9 := bc BK.out 9 (.int .i64 31) rfl; have hcz_10 := bc BK.out 10 (.int .i64 30) rfl; have hcz_11 := bc BK.out 11 (.int .i64 31) rfl))
   go_ret
   exact ⟨by first | rfl | (simp; done) | (simp [*]; done), below_y HB.out⟩
 by_cases e : a1 = 6
 ·subst e
  have hv : stamp_Days.days a0 6 = 30 := by
   unfold stamp_Days.days
   rw [if_neg (by omega), if_neg (show ¬((6 : Int) = 2 ∧ stamp_Days.leap a0 = true) from fun h => absurd h.1 (by decide))]
   rfl
  rw [hv]
  clear hv
  focus
   go_enter Tryd.func10, Tryd.ntmps10
   go_wp2_with (first | ((with_reducible refine gate_dst (N := 5) rfl ?_); refine box_event ?hg (N := 5) ?hd (cs := #[.int .i64 0, .int .i64 0, .int .i64 0, .int .i64 0, .int .i64 0, .int .i64 0, .int .i64 0, .int .i64 0, .int .i64 0, .int .i64 0, .int .i64 0, .int .i64 0]) (t := 61) ?hr ?_; (case hd => rfl); (case hg => rfl); (case hr => first | (go_simp; done) | (go_simp; rfl)); intro gb hg w1 hbox hb; have n0_ := mkA (below_step (below_y HB.out) hb); have n1_ := mkA (hbox); have n2_ := mkA ((gz hg HB.out : w.heap.size ≤ gb)); clear HB; have HB := n0_; have BK := n1_; have GE := n2_; clear n0_ n1_ n2_; clear hb hbox hg) | ((with_reducible refine gate_store (t := 61) (p := 5) rfl ?_); refine store_whole2 (t := 61) (g := gb) ?hg ?hn (cells := #[.int .i64 31, .int .i64 28, .int .i64 31, .int .i64 30, .int .i64 31, .int .i64 30, .int .i64 31, .int .i64 31, .int .i64 30, .int .i64 31, .int .i64 30, .int .i64 31]) ?ho (blk_y BK.out) (by kernel_rfl) rfl ?h1 ?_; (case hg => rfl); (case hn => rfl); (case ho => refine ⟨_, _, rfl, ?_, ?_⟩; all_goals (first | (with_reducible rfl) | (go_simp; done) | rfl | (go_simp; rfl))); (case h1 => first | rfl | simp [Value.oneCell']); intro w2 hw; have n0_ := mkA ((by rw [hw]; exact setRow_heap _ _ _ _ _ _ (blk_y BK.out) : w2.heap[gb]? = some (.cells #[.int .i64 31, .int .i64 28, .int .i64 31, .int .i64 30, .int .i64 31, .int .i64 30, .int .i64 31, .int .i64 31, .int .i64 30, .int .i64 31, .int .i64 30, .int .i64 31] 61 (0, 0)))); have n1_ := mkA ((by rw [hw]; exact below_setRow (below_y HB.out) GE.out _ : Below w.heap.size w w2)); clear BK; clear HB; have BK := n0_; have HB := n1_; clear n0_ n1_; clear hw; have hcz_0 := bc BK.out 0 (.int .i64 31) rfl; have hcz_1 := bc BK.out 1 (.int .i64 28) rfl; have hcz_2 := bc BK.out 2 (.int .i64 31) rfl; have hcz_3 := bc BK.out 3 (.int .i64 30) rfl; have hcz_4 := bc BK.out 4 (.int .i64 31) rfl; have hcz_5 := bc BK.out 5 (.int .i64 30) rfl; have hcz_6 := bc BK.out 6 (.int .i64 31) rfl; have hcz_7 := bc BK.out 7 (.int .i64 31) rfl; have hcz_8 := bc BK.out 8 (.int .i64 30) rfl; have hcz_9 := bc BK.out 9 (.int .i64 31) rfl; have hcz_10 := bc BK.out 10 (.int .i64 30) rfl; have hcz_11 := bc BK.out 11 (.int .i64 31) rfl))
   go_ret
   exact ⟨by first | rfl | (simp; done) | (simp [*]; done), below_y HB.out⟩
 by_cases e : a1 = 7
 ·subst e
  have hv : stamp_Days.days a0 7 = 31 := by
   unfold stamp_Days.days
   rw [if_neg (by omega), if_neg (show ¬((7 : Int) = 2 ∧ stamp_Days.leap a0 = true) from fun h => absurd h.1 (by decide))]
   rfl
  rw [hv]
  clear hv
  focus
   go_enter Tryd.func10, Tryd.ntmps10
   go_wp2_with (first | ((with_reducible refine gate_dst (N := 5) rfl ?_); refine box_event ?hg (N := 5) ?hd (cs := #[.int .i64 0, .int .i64 0, .int .i64 0, .int .i64 0, .int .i64 0, .int .i64 0, .int .i64 0, .int .i64 0, .int .i64 0, .int .i64 0, .int .i64 0, .int .i64 0]) (t := 61) ?hr ?_; (case hd => rfl); (case hg => rfl); (case hr => first | (go_simp; done) | (go_simp; rfl)); intro gb hg w1 hbox hb; have n0_ := mkA (below_step (below_y HB.out) hb); have n1_ := mkA (hbox); have n2_ := mkA ((gz hg HB.out : w.heap.size ≤ gb)); clear HB; have HB := n0_; have BK := n1_; have GE := n2_; clear n0_ n1_ n2_; clear hb hbox hg) | ((with_reducible refine gate_store (t := 61) (p := 5) rfl ?_); refine store_whole2 (t := 61) (g := gb) ?hg ?hn (cells := #[.int .i64 31, .int .i64 28, .int .i64 31, .int .i64 30, .int .i64 31, .int .i64 30, .int .i64 31, .int .i64 31, .int .i64 30, .int .i64 31, .int .i64 30, .int .i64 31]) ?ho (blk_y BK.out) (by kernel_rfl) rfl ?h1 ?_; (case hg => rfl); (case hn => rfl); (case ho => refine ⟨_, _, rfl, ?_, ?_⟩; all_goals (first | (with_reducible rfl) | (go_simp; done) | rfl | (go_simp; rfl))); (case h1 => first | rfl | simp [Value.oneCell']); intro w2 hw; have n0_ := mkA ((by rw [hw]; exact setRow_heap _ _ _ _ _ _ (blk_y BK.out) : w2.heap[gb]? = some (.cells #[.int .i64 31, .int .i64 28, .int .i64 31, .int .i64 30, .int .i64 31, .int .i64 30, .int .i64 31, .int .i64 31, .int .i64 30, .int .i64 31, .int .i64 30, .int .i64 31] 61 (0, 0)))); have n1_ := mkA ((by rw [hw]; exact below_setRow (below_y HB.out) GE.out _ : Below w.heap.size w w2)); clear BK; clear HB; have BK := n0_; have HB := n1_; clear n0_ n1_; clear hw; have hcz_0 := bc BK.out 0 (.int .i64 31) rfl; have hcz_1 := bc BK.out 1 (.int .i64 28) rfl; have hcz_2 := bc BK.out 2 (.int .i64 31) rfl; have hcz_3 := bc BK.out 3 (.int .i64 30) rfl; have hcz_4 := bc BK.out 4 (.int .i64 31) rfl; have hcz_5 := bc BK.out 5 (.int .i64 30) rfl; have hcz_6 := bc BK.out 6 (.int .i64 31) rfl; have hcz_7 := bc BK.out 7 (.int .i64 31) rfl; have hcz_8 := bc BK.out 8 (.int .i64 30) rfl; have hcz_9 := bc BK.out 9 (.int .i64 31) rfl; have hcz_10 := bc BK.out 10 (.int .i64 30) rfl; have hcz_11 := bc BK.out 11 (.int .i64 31) rfl))
   go_ret
   exact ⟨by first | rfl | (simp; done) | (simp [*]; done), below_y HB.out⟩
 by_cases e : a1 = 8
 ·subst e
  have hv : stamp_Days.days a0 8 = 31 := by
   unfold stamp_Days.days
   rw [if_neg (by omega), if_neg (show ¬((8 : Int) = 2 ∧ stamp_Days.leap a0 = true) from fun h => absurd h.1 (by decide))]
   rfl
  rw [hv]
  clear hv
  focus
   go_enter Tryd.func10, Tryd.ntmps10
   go_wp2_with (first | ((with_reducible refine gate_dst (N := 5) rfl ?_); refine box_event ?hg (N := 5) ?hd (cs := #[.int .i64 0, .int .i64 0, .int .i64 0, .int .i64 0, .int .i64 0, .int .i64 0, .int .i64 0, .int .i64 0, .int .i64 0, .int .i64 0, .int .i64 0, .int .i64 0]) (t := 61) ?hr ?_; (case hd => rfl); (case hg => rfl); (case hr => first | (go_simp; done) | (go_simp; rfl)); intro gb hg w1 hbox hb; have n0_ := mkA (below_step (below_y HB.out) hb); have n1_ := mkA (hbox); have n2_ := mkA ((gz hg HB.out : w.heap.size ≤ gb)); clear HB; have HB := n0_; have BK := n1_; have GE := n2_; clear n0_ n1_ n2_; clear hb hbox hg) | ((with_reducible refine gate_store (t := 61) (p := 5) rfl ?_); refine store_whole2 (t := 61) (g := gb) ?hg ?hn (cells := #[.int .i64 31, .int .i64 28, .int .i64 31, .int .i64 30, .int .i64 31, .int .i64 30, .int .i64 31, .int .i64 31, .int .i64 30, .int .i64 31, .int .i64 30, .int .i64 31]) ?ho (blk_y BK.out) (by kernel_rfl) rfl ?h1 ?_; (case hg => rfl); (case hn => rfl); (case ho => refine ⟨_, _, rfl, ?_, ?_⟩; all_goals (first | (with_reducible rfl) | (go_simp; done) | rfl | (go_simp; rfl))); (case h1 => first | rfl | simp [Value.oneCell']); intro w2 hw; have n0_ := mkA ((by rw [hw]; exact setRow_heap _ _ _ _ _ _ (blk_y BK.out) : w2.heap[gb]? = some (.cells #[.int .i64 31, .int .i64 28, .int .i64 31, .int .i64 30, .int .i64 31, .int .i64 30, .int .i64 31, .int .i64 31, .int .i64 30, .int .i64 31, .int .i64 30, .int .i64 31] 61 (0, 0)))); have n1_ := mkA ((by rw [hw]; exact below_setRow (below_y HB.out) GE.out _ : Below w.heap.size w w2)); clear BK; clear HB; have BK := n0_; have HB := n1_; clear n0_ n1_; clear hw; have hcz_0 := bc BK.out 0 (.int .i64 31) rfl; have hcz_1 := bc BK.out 1 (.int .i64 28) rfl; have hcz_2 := bc BK.out 2 (.int .i64 31) rfl; have hcz_3 := bc BK.out 3 (.int .i64 30) rfl; have hcz_4 := bc BK.out 4 (.int .i64 31) rfl; have hcz_5 := bc BK.out 5 (.int .i64 30) rfl; have hcz_6 := bc BK.out 6 (.int .i64 31) rfl; have hcz_7 := bc BK.out 7 (.int .i64 31) rfl; have hcz_8 := bc BK.out 8 (.int .i64 30) rfl; have hcz_9 := bc BK.out 9 (.int .i64 31) rfl; have hcz_10 := bc BK.out 10 (.int .i64 30) rfl; have hcz_11 := bc BK.out 11 (.int .i64 31) rfl))
   go_ret
   exact ⟨by first | rfl | (simp; done) | (simp [*]; done), below_y HB.out⟩
 by_cases e : a1 = 9
 ·subst e
  have hv : stamp_Days.days a0 9 = 30 := by
   unfold stamp_Days.days
   rw [if_neg (by omega), if_neg (show ¬((9 : Int) = 2 ∧ stamp_Days.leap a0 = true) from fun h => absurd h.1 (by decide))]
   rfl
  rw [hv]
  clear hv
  focus
   go_enter Tryd.func10, Tryd.ntmps10
   go_wp2_with (first | ((with_reducible refine gate_dst (N := 5) rfl ?_); refine box_event ?hg (N := 5) ?hd (cs := #[.int .i64 0, .int .i64 0, .int .i64 0, .int .i64 0, .int .i64 0, .int .i64 0, .int .i64 0, .int .i64 0, .int .i64 0, .int .i64 0, .int .i64 0, .int .i64 0]) (t := 61) ?hr ?_; (case hd => rfl); (case hg => rfl); (case hr => first | (go_simp; done) | (go_simp; rfl)); intro gb hg w1 hbox hb; have n0_ := mkA (below_step (below_y HB.out) hb); have n1_ := mkA (hbox); have n2_ := mkA ((gz hg HB.out : w.heap.size ≤ gb)); clear HB; have HB := n0_; have BK := n1_; have GE := n2_; clear n0_ n1_ n2_; clear hb hbox hg) | ((with_reducible refine gate_store (t := 61) (p := 5) rfl ?_); refine store_whole2 (t := 61) (g := gb) ?hg ?hn (cells := #[.int .i64 31, .int .i64 28, .int .i64 31, .int .i64 30, .int .i64 31, .int .i64 30, .int .i64 31, .int .i64 31, .int .i64 30, .int .i64 31, .int .i64 30, .int .i64 31]) ?ho (blk_y BK.out) (by kernel_rfl) rfl ?h1 ?_; (case hg => rfl); (case hn => rfl); (case ho => refine ⟨_, _, rfl, ?_, ?_⟩; all_goals (first | (with_reducible rfl) | (go_simp; done) | rfl | (go_simp; rfl))); (case h1 => first | rfl | simp [Value.oneCell']); intro w2 hw; have n0_ := mkA ((by rw [hw]; exact setRow_heap _ _ _ _ _ _ (blk_y BK.out) : w2.heap[gb]? = some (.cells #[.int .i64 31, .int .i64 28, .int .i64 31, .int .i64 30, .int .i64 31, .int .i64 30, .int .i64 31, .int .i64 31, .int .i64 30, .int .i64 31, .int .i64 30, .int .i64 31] 61 (0, 0)))); have n1_ := mkA ((by rw [hw]; exact below_setRow (below_y HB.out) GE.out _ : Below w.heap.size w w2)); clear BK; clear HB; have BK := n0_; have HB := n1_; clear n0_ n1_; clear hw; have hcz_0 := bc BK.out 0 (.int .i64 31) rfl; have hcz_1 := bc BK.out 1 (.int .i64 28) rfl; have hcz_2 := bc BK.out 2 (.int .i64 31) rfl; have hcz_3 := bc BK.out 3 (.int .i64 30) rfl; have hcz_4 := bc BK.out 4 (.int .i64 31) rfl; have hcz_5 := bc BK.out 5 (.int .i64 30) rfl; have hcz_6 := bc BK.out 6 (.int .i64 31) rfl; have hcz_7 := bc BK.out 7 (.int .i64 31) rfl; have hcz_8 := bc BK.out 8 (.int .i64 30) rfl; have hcz_9 := bc BK.out 9 (.int .i64 31) rfl; have hcz_10 := bc BK.out 10 (.int .i64 30) rfl; have hcz_11 := bc BK.out 11 (.int .i64 31) rfl))
   go_ret
   exact ⟨by first | rfl | (simp; done) | (simp [*]; done), below_y HB.out⟩
 by_cases e : a1 = 10
 ·subst e
  have hv : stamp_Days.days a0 10 = 31 := by
   unfold stamp_Days.days
   rw [if_neg (by omega), if_neg (show ¬((10 : Int) = 2 ∧ stamp_Days.leap a0 = true) from fun h => absurd h.1 (by decide))]
   rfl
  rw [hv]
  clear hv
  focus
   go_enter Tryd.func10, Tryd.ntmps10
   go_wp2_with (first | ((with_reducible refine gate_dst (N := 5) rfl ?_); refine box_event ?hg (N := 5) ?hd (cs := #[.int .i64 0, .int .i64 0, .int .i64 0, .int .i64 0, .int .i64 0, .int .i64 0, .int .i64 0, .int .i64 0, .int .i64 0, .int .i64 0, .int .i64 0, .int .i64 0]) (t := 61) ?hr ?_; (case hd => rfl); (case hg => rfl); (case hr => first | (go_simp; done) | (go_simp; rfl)); intro gb hg w1 hbox hb; have n0_ := mkA (below_step (below_y HB.out) hb); have n1_ := mkA (hbox); have n2_ := mkA ((gz hg HB.out : w.heap.size ≤ gb)); clear HB; have HB := n0_; have BK := n1_; have GE := n2_; clear n0_ n1_ n2_; clear hb hbox hg) | ((with_reducible refine gate_store (t := 61) (p := 5) rfl ?_); refine store_whole2 (t := 61) (g := gb) ?hg ?hn (cells := #[.int .i64 31, .int .i64 28, .int .i64 31, .int .i64 30, .int .i64 31, .int .i64 30, .int .i64 31, .int .i64 31, .int .i64 30, .int .i64 31, .int .i64 30, .int .i64 31]) ?ho (blk_y BK.out) (by kernel_rfl) rfl ?h1 ?_; (case hg => rfl); (case hn => rfl); (case ho => refine ⟨_, _, rfl, ?_, ?_⟩; all_goals (first | (with_reducible rfl) | (go_simp; done) | rfl | (go_simp; rfl))); (case h1 => first | rfl | simp [Value.oneCell']); intro w2 hw; have n0_ := mkA ((by rw [hw]; exact setRow_heap _ _ _ _ _ _ (blk_y BK.out) : w2.heap[gb]? = some (.cells #[.int .i64 31, .int .i64 28, .int .i64 31, .int .i64 30, .int .i64 31, .int .i64 30, .int .i64 31, .int .i64 31, .int .i64 30, .int .i64 31, .int .i64 30, .int .i64 31] 61 (0, 0)))); have n1_ := mkA ((by rw [hw]; exact below_setRow (below_y HB.out) GE.out _ : Below w.heap.size w w2)); clear BK; clear HB; have BK := n0_; have HB := n1_; clear n0_ n1_; clear hw; have hcz_0 := bc BK.out 0 (.int .i64 31) rfl; have hcz_1 := bc BK.out 1 (.int .i64 28) rfl; have hcz_2 := bc BK.out 2 (.int .i64 31) rfl; have hcz_3 := bc BK.out 3 (.int .i64 30) rfl; have hcz_4 := bc BK.out 4 (.int .i64 31) rfl; have hcz_5 := bc BK.out 5 (.int .i64 30) rfl; have hcz_6 := bc BK.out 6 (.int .i64 31) rfl; have hcz_7 := bc BK.out 7 (.int .i64 31) rfl; have hcz_8 := bc BK.out 8 (.int .i64 30) rfl; have hcz_9 := bc BK.out 9 (.int .i64 31) rfl; have hcz_10 := bc BK.out 10 (.int .i64 30) rfl; have hcz_11 := bc BK.out 11 (.int .i64 31) rfl))
   go_ret
   exact ⟨by first | rfl | (simp; done) | (simp [*]; done), below_y HB.out⟩
 by_cases e : a1 = 11
 ·subst e
  have hv : stamp_Days.days a0 11 = 30 := by
   unfold stamp_Days.days
   rw [if_neg (by omega), if_neg (show ¬((11 : Int) = 2 ∧ stamp_Days.leap a0 = true) from fun h => absurd h.1 (by decide))]
   rfl
  rw [hv]
  clear hv
  focus
   go_enter Tryd.func10, Tryd.ntmps10
   go_wp2_with (first | ((with_reducible refine gate_dst (N := 5) rfl ?_); refine box_event ?hg (N := 5) ?hd (cs := #[.int .i64 0, .int .i64 0, .int .i64 0, .int .i64 0, .int .i64 0, .int .i64 0, .int .i64 0, .int .i64 0, .int .i64 0, .int .i64 0, .int .i64 0, .int .i64 0]) (t := 61) ?hr ?_; (case hd => rfl); (case hg => rfl); (case hr => first | (go_simp; done) | (go_simp; rfl)); intro gb hg w1 hbox hb; have n0_ := mkA (below_step (below_y HB.out) hb); have n1_ := mkA (hbox); have n2_ := mkA ((gz hg HB.out : w.heap.size ≤ gb)); clear HB; have HB := n0_; have BK := n1_; have GE := n2_; clear n0_ n1_ n2_; clear hb hbox hg) | ((with_reducible refine gate_store (t := 61) (p := 5) rfl ?_); refine store_whole2 (t := 61) (g := gb) ?hg ?hn (cells := #[.int .i64 31, .int .i64 28, .int .i64 31, .int .i64 30, .int .i64 31, .int .i64 30, .int .i64 31, .int .i64 31, .int .i64 30, .int .i64 31, .int .i64 30, .int .i64 31]) ?ho (blk_y BK.out) (by kernel_rfl) rfl ?h1 ?_; (case hg => rfl); (case hn => rfl); (case ho => refine ⟨_, _, rfl, ?_, ?_⟩; all_goals (first | (with_reducible rfl) | (go_simp; done) | rfl | (go_simp; rfl))); (case h1 => first | rfl | simp [Value.oneCell']); intro w2 hw; have n0_ := mkA ((by rw [hw]; exact setRow_heap _ _ _ _ _ _ (blk_y BK.out) : w2.heap[gb]? = some (.cells #[.int .i64 31, .int .i64 28, .int .i64 31, .int .i64 30, .int .i64 31, .int .i64 30, .int .i64 31, .int .i64 31, .int .i64 30, .int .i64 31, .int .i64 30, .int .i64 31] 61 (0, 0)))); have n1_ := mkA ((by rw [hw]; exact below_setRow (below_y HB.out) GE.out _ : Below w.heap.size w w2)); clear BK; clear HB; have BK := n0_; have HB := n1_; clear n0_ n1_; clear hw; have hcz_0 := bc BK.out 0 (.int .i64 31) rfl; have hcz_1 := bc BK.out 1 (.int .i64 28) rfl; have hcz_2 := bc BK.out 2 (.int .i64 31) rfl; have hcz_3 := bc BK.out 3 (.int .i64 30) rfl; have hcz_4 := bc BK.out 4 (.int .i64 31) rfl; have hcz_5 := bc BK.out 5 (.int .i64 30) rfl; have hcz_6 := bc BK.out 6 (.int .i64 31) rfl; have hcz_7 := bc BK.out 7 (.int .i64 31) rfl; have hcz_8 := bc BK.out 8 (.int .i64 30) rfl; have hcz_9 := bc BK.out 9 (.int .i64 31) rfl; have hcz_10 := bc BK.out 10 (.int .i64 30) rfl; have hcz_11 := bc BK.out 11 (.int .i64 31) rfl))
   go_ret
   exact ⟨by first | rfl | (simp; done) | (simp [*]; done), below_y HB.out⟩
 have e : a1 = 12 := by omega
 subst e
 have hv : stamp_Days.days a0 12 = 31 := by
  unfold stamp_Days.days
  rw [if_neg (by omega), if_neg (show ¬((12 : Int) = 2 ∧ stamp_Days.leap a0 = true) from fun h => absurd h.1 (by decide))]
  rfl
 rw [hv]
 clear hv
 focus
  go_enter Tryd.func10, Tryd.ntmps10
  go_wp2_with (first | ((with_reducible refine gate_dst (N := 5) rfl ?_); refine box_event ?hg (N := 5) ?hd (cs := #[.int .i64 0, .int .i64 0, .int .i64 0, .int .i64 0, .int .i64 0, .int .i64 0, .int .i64 0, .int .i64 0, .int .i64 0, .int .i64 0, .int .i64 0, .int .i64 0]) (t := 61) ?hr ?_; (case hd => rfl); (case hg => rfl); (case hr => first | (go_simp; done) | (go_simp; rfl)); intro gb hg w1 hbox hb; have n0_ := mkA (below_step (below_y HB.out) hb); have n1_ := mkA (hbox); have n2_ := mkA ((gz hg HB.out : w.heap.size ≤ gb)); clear HB; have HB := n0_; have BK := n1_; have GE := n2_; clear n0_ n1_ n2_; clear hb hbox hg) | ((with_reducible refine gate_store (t := 61) (p := 5) rfl ?_); refine store_whole2 (t := 61) (g := gb) ?hg ?hn (cells := #[.int .i64 31, .int .i64 28, .int .i64 31, .int .i64 30, .int .i64 31, .int .i64 30, .int .i64 31, .int .i64 31, .int .i64 30, .int .i64 31, .int .i64 30, .int .i64 31]) ?ho (blk_y BK.out) (by kernel_rfl) rfl ?h1 ?_; (case hg => rfl); (case hn => rfl); (case ho => refine ⟨_, _, rfl, ?_, ?_⟩; all_goals (first | (with_reducible rfl) | (go_simp; done) | rfl | (go_simp; rfl))); (case h1 => first | rfl | simp [Value.oneCell']); intro w2 hw; have n0_ := mkA ((by rw [hw]; exact setRow_heap _ _ _ _ _ _ (blk_y BK.out) : w2.heap[gb]? = some (.cells #[.int .i64 31, .int .i64 28, .int .i64 31, .int .i64 30, .int .i64 31, .int .i64 30, .int .i64 31, .int .i64 31, .int .i64 30, .int .i64 31, .int .i64 30, .int .i64 31] 61 (0, 0)))); have n1_ := mkA ((by rw [hw]; exact below_setRow (below_y HB.out) GE.out _ : Below w.heap.size w w2)); clear BK; clear HB; have BK := n0_; have HB := n1_; clear n0_ n1_; clear hw; have hcz_0 := bc BK.out 0 (.int .i64 31) rfl; have hcz_1 := bc BK.out 1 (.int .i64 28) rfl; have hcz_2 := bc BK.out 2 (.int .i64 31) rfl; have hcz_3 := bc BK.out 3 (.int .i64 30) rfl; have hcz_4 := bc BK.out 4 (.int .i64 31) rfl; have hcz_5 := bc BK.out 5 (.int .i64 30) rfl; have hcz_6 := bc BK.out 6 (.int .i64 31) rfl; have hcz_7 := bc BK.out 7 (.int .i64 31) rfl; have hcz_8 := bc BK.out 8 (.int .i64 30) rfl; have hcz_9 := bc BK.out 9 (.int .i64 31) rfl; have hcz_10 := bc BK.out 10 (.int .i64 30) rfl; have hcz_11 := bc BK.out 11 (.int .i64 31) rfl))
  go_ret
  exact ⟨by first | rfl | (simp; done) | (simp [*]; done), below_y HB.out⟩

-- NOT PRINTED: function 29 (strings_FieldsFunc)

/-! ### stamp_fields_1: function 30 -/
def stamp_fields_1.f (a0 : Int) : Option (Bool) := if a0 = 32 then (some true) else (some (a0 == 9))
set_option maxHeartbeats 8000000 in
set_option maxRecDepth 100000 in
theorem stamp_fields_1.calls (a0 : Int) (r : Bool) (w : World) (h : stamp_fields_1.f a0 = some r) :
  Calls Tryd.prog 30 #[.int .i32 a0] w fun e w' => e = .returned (.bool r) ∧ Drawn0 w w' := by
 have H : (if a0 = 32 then (some true) else (some (a0 == 9))) = some r := h
 clear h
 by_cases c2 : a0 = 32
 ·rw [if_pos c2] at H
  have c2b0 : (a0 == 32) = true := beq_iff_eq.mpr c2
  have c2b1 : (a0 != 32) = false := bne_eq_false_iff_eq.mpr c2
  clear c2
  obtain rfl := Option.some.inj H
  as_aux_lemma =>
   go_enter Tryd.func30, Tryd.ntmps30
   go_wp2
   go_ret
   exact ⟨by first | rfl | (simp; done) | (simp [*]; done), by repeat (first | exact Drawn0.refl _ | apply Drawn0.step)⟩
 ·rw [if_neg c2] at H
  have c2b0 : (a0 == 32) = false := beq_eq_false_iff_ne.mpr c2
  have c2b1 : (a0 != 32) = true := bne_iff_ne.mpr c2
  obtain rfl := Option.some.inj H
  as_aux_lemma =>
   go_enter Tryd.func30, Tryd.ntmps30
   go_wp2
   go_ret
   exact ⟨by first | rfl | (simp; done) | (simp [*]; done), by repeat (first | exact Drawn0.refl _ | apply Drawn0.step)⟩

/-! ### stamp_fields: function 12 -/
def stamp_fields.blank (x : Nat) : Bool := x == 32 || x == 9
def stamp_fields.f (a0 : ByteArray) : Option (List ByteArray) := if a0.size ≤ 4294967296 ∧ (Lib.goFieldsP stamp_fields.blank a0).length ≤ 9223372036854775807 then some (Lib.goFieldsP stamp_fields.blank a0) else none
theorem stamp_fields.clo (W : World) (x : Nat) (hx : x ≤ 1114111) :
  Calls Tryd.prog 30 #[encR x] W fun e w' => e = .returned (.bool (stamp_fields.blank x)) ∧ Below W.heap.size W w' := by
 unfold encR stamp_fields.blank
 have h1 : ((x : Int) == 32) = (x == 32) := by
  by_cases h : x = 32
  ·subst h; rfl
  ·rw [beq_eq_false_iff_ne.mpr h, beq_eq_false_iff_ne.mpr (by omega)]
 have h2 : ((x : Int) == 9) = (x == 9) := by
  by_cases h : x = 9
  ·subst h; rfl
  ·rw [beq_eq_false_iff_ne.mpr h, beq_eq_false_iff_ne.mpr (by omega)]
 rw [← h1, ← h2]
 clear h1 h2
 cases hb : ((x : Int) == 32) <;> cases hc : ((x : Int) == 9) <;> (
  go_enter Tryd.func30, Tryd.ntmps30
  go_wp2
  go_ret
  exact ⟨by first | rfl | simp [*], Below.refl _ _⟩)
theorem stamp_fields.calls (a0 : ByteArray) (r : List ByteArray) (w : World) (h : stamp_fields.f a0 = some r) :
  Calls Tryd.prog 12 #[.string a0] w fun e w' => ∃ v0_ : Value, e = .returned (v0_) ∧ Kd.V Kd.string 9 w' w.heap.size (fun k_ => (w.heap.size ≤ k_)) v0_ r ∧ Below w.heap.size w w' := by
 unfold stamp_fields.f at h
 split at h
 ·rename_i hs0
  obtain ⟨hs, hlen⟩ := hs0
  have HLN := mkA hlen
  clear hlen
  obtain rfl := Option.some.inj h
  have H := mkA (Any.strings_FieldsFunc_grows Tryd.lays229 30 #[] (enters_of Tryd.func30 (by kernel_rfl) rfl) stamp_fields.blank a0 w hs (fun W x hx _ => stamp_fields.clo W x hx) (by kernel_rfl) (by kernel_rfl))
  clear hs h
  generalize Lib.goFieldsP stamp_fields.blank a0 = l at H HLN ⊢
  go_enter Tryd.func12, Tryd.ntmps12
  go_wp2_with (go_at_call 29; refine H.out.mono ?_; rintro e w' ⟨Aa, rfl, hA, ho, hb⟩; have HA := mkA hA; have HO := mkA ho; have HB := mkA hb; clear H hA ho hb)
  go_ret
  obtain ⟨hl, ho⟩ := HO.out
  refine ⟨_, rfl, ?_, HB.out⟩
  refine ⟨_, l.length, rfl, Nat.le_refl _, fun W' hW => ?_⟩
  refine ⟨rfl, HLN.out, fun h0 => ⟨⟨Aa, 0, none⟩, rfl, fun j p hj2 => ⟨[.string p], rfl, rfl, fun i u hu => ?_⟩⟩⟩
  cases i with
  | succ i => simp at hu
  | zero =>
   obtain rfl : Value.string p = u := Option.some.inj hu
   have hjl := (List.getElem?_eq_some_iff.1 hj2).1
   show W'.cell? (Addr.add ⟨Aa, 0, none⟩ (j * 1 + 0)) = _
   rw [Nat.mul_one, Nat.add_zero, add_plain]
   rcases ho with ⟨he, hn⟩ | ⟨g, cap, cur, he, hg, hblk, h1, h2, h3, h4⟩
   ·omega
   ·injection he with e1 e2 e3
    injection e1 with e1
    injection e1 with e1
    subst e1
    have hcj : w'.cell? ⟨Aa, 0 + j, none⟩ = some (.string p) := by
     rw [blk_cell hblk (0 + j), Nat.zero_add]
     have : (cur.toList.take (l.length * 1))[j]? = some (.string p) := by rw [h4, List.getElem?_map, hj2]; rfl
     rw [List.getElem?_take, if_pos (by omega)] at this
     rw [← Array.getElem?_toList]
     exact this
    have hb := hW Aa hg (World.block_lt_of_cell? w' _ hcj)
    have hsame : W'.cell? ⟨Aa, j, none⟩ = w'.cell? ⟨Aa, 0 + j, none⟩ := by rw [Nat.zero_add]; unfold World.cell?; rw [hb]
    rw [hsame, hcj]
 ·cases h

/-! ### stringslite_HasSuffix: function 46 -/
def stringslite_HasSuffix.f (a0 : ByteArray) (a1 : ByteArray) : Option (Bool) := if (a0.size : Int) ≥ (a1.size : Int) then (if 0 ≤ (wrap64 ((a0.size : Int) - (a1.size : Int))) then (if (wrap64 ((a0.size : Int) - (a1.size : Int))) ≤ (a0.size : Int) then (some ((a0.extract ((wrap64 ((a0.size : Int) - (a1.size : Int))) : Int).toNat a0.size).toList == a1.toList)) else (none)) else (none)) else (some false)
set_option maxHeartbeats 8000000 in
set_option maxRecDepth 100000 in
theorem stringslite_HasSuffix.calls (a0 : ByteArray) (a1 : ByteArray) (r : Bool) (w : World) (h : stringslite_HasSuffix.f a0 a1 = some r) :
  Calls Tryd.prog 46 #[.string a0, .string a1] w fun e w' => e = .returned (.bool r) ∧ Drawn0 w w' := by
 have H : (if (a0.size : Int) ≥ (a1.size : Int) then (if 0 ≤ (wrap64 ((a0.size : Int) - (a1.size : Int))) then (if (wrap64 ((a0.size : Int) - (a1.size : Int))) ≤ (a0.size : Int) then (some ((a0.extract ((wrap64 ((a0.size : Int) - (a1.size : Int))) : Int).toNat a0.size).toList == a1.toList)) else (none)) else (none)) else (some false)) = some r := h
 clear h
 by_cases c3 : (a0.size : Int) ≥ (a1.size : Int)
 ·rw [if_pos c3] at H
  have c3b0 : decide ((a1.size : Int) ≤ (a0.size : Int)) = true := decide_eq_true c3
  have c3b1 : decide (a1.size ≤ a0.size) = true := decide_eq_true (Int.ofNat_le.mp c3)
  clear c3
  obtain ⟨ji4, hji4⟩ : ∃ j_ : Int, (wrap64 ((a0.size : Int) - (a1.size : Int))) = j_ := ⟨_, rfl⟩
  replace H : (if 0 ≤ (ji4) then (if (ji4) ≤ (a0.size : Int) then (some ((a0.extract ((ji4) : Int).toNat a0.size).toList == a1.toList)) else (none)) else (none)) = some r := by first | (rw [hji4] at H; exact H) | (simp only [hji4] at H ⊢; exact H)
  have hji4w : (IntKind.i64.wrap ((a0.size : Int) - (a1.size : Int))) = ji4 := (i64_w _).trans hji4
  by_cases c5 : 0 ≤ (ji4)
  ·rw [if_pos c5] at H
   have c5b0 := eq_true c5
   have c5b1 : decide (0 ≤ (ji4)) = true := decide_eq_true c5
   clear c5
   by_cases c6 : (ji4) ≤ (a0.size : Int)
   ·rw [if_pos c6] at H
    have c6b0 := eq_true c6
    have c6b1 : decide ((ji4) ≤ (a0.size : Int)) = true := decide_eq_true c6
    clear c6
    obtain rfl := Option.some.inj H
    as_aux_lemma =>
     go_enter Tryd.func46, Tryd.ntmps46
     go_wp2
     go_ret
     exact ⟨by first | rfl | (simp; done) | (simp only [← hji4] <;> (first | rfl | simp)) | (simp [*]; done), by repeat (first | exact Drawn0.refl _ | apply Drawn0.step)⟩
   ·rw [if_neg c6] at H
    exact absurd H (by simp)
  ·rw [if_neg c5] at H
   exact absurd H (by simp)
 ·rw [if_neg c3] at H
  have c3b0 : decide ((a1.size : Int) ≤ (a0.size : Int)) = false := decide_eq_false c3
  have c3b1 : decide (a1.size ≤ a0.size) = false := decide_eq_false (fun h => c3 (Int.ofNat_le.mpr h))
  clear c3
  obtain rfl := Option.some.inj H
  as_aux_lemma =>
   go_enter Tryd.func46, Tryd.ntmps46
   go_wp2
   go_ret
   exact ⟨by first | rfl | (simp; done) | (simp [*]; done), by repeat (first | exact Drawn0.refl _ | apply Drawn0.step)⟩

/-! ### stringslite_CutSuffix: function 31 -/
def stringslite_CutSuffix.f (a0 : ByteArray) (a1 : ByteArray) : Option (ByteArray × Bool) := (stringslite_HasSuffix.f a0 a1).bind fun t101 => (if t101 = true then (if 0 ≤ (wrap64 ((a0.size : Int) - (a1.size : Int))) then (if (wrap64 ((a0.size : Int) - (a1.size : Int))) ≤ (a0.size : Int) then (some (a0.extract 0 ((wrap64 ((a0.size : Int) - (a1.size : Int))) : Int).toNat, true)) else (none)) else (none)) else (some (a0, false)))
set_option maxHeartbeats 8000000 in
set_option maxRecDepth 100000 in
theorem stringslite_CutSuffix.calls (a0 : ByteArray) (a1 : ByteArray) (r1 : ByteArray) (r2 : Bool) (w : World) (h : stringslite_CutSuffix.f a0 a1 = some (r1, r2)) :
  Calls Tryd.prog 31 #[.string a0, .string a1] w fun e w' => e = .returned (.tuple #[.string r1, .bool r2]) ∧ Drawn0 w w' := by
 have H : ((stringslite_HasSuffix.f a0 a1).bind fun t101 => (if t101 = true then (if 0 ≤ (wrap64 ((a0.size : Int) - (a1.size : Int))) then (if (wrap64 ((a0.size : Int) - (a1.size : Int))) ≤ (a0.size : Int) then (some (a0.extract 0 ((wrap64 ((a0.size : Int) - (a1.size : Int))) : Int).toNat, true)) else (none)) else (none)) else (some (a0, false)))) = some (r1, r2) := h
 clear h
 replace H := Option.bind_eq_some_iff.mp H
 obtain ⟨t101, A30, H⟩ := H
 replace H : (if t101 = true then (if 0 ≤ (wrap64 ((a0.size : Int) - (a1.size : Int))) then (if (wrap64 ((a0.size : Int) - (a1.size : Int))) ≤ (a0.size : Int) then (some (a0.extract 0 ((wrap64 ((a0.size : Int) - (a1.size : Int))) : Int).toNat, true)) else (none)) else (none)) else (some (a0, false))) = some (r1, r2) := H
 have A3 := mkA A30
 clear A30
 by_cases c4 : t101 = true
 ·subst c4
  have H1 : (if 0 ≤ (wrap64 ((a0.size : Int) - (a1.size : Int))) then (if (wrap64 ((a0.size : Int) - (a1.size : Int))) ≤ (a0.size : Int) then (some (a0.extract 0 ((wrap64 ((a0.size : Int) - (a1.size : Int))) : Int).toNat, true)) else (none)) else (none)) = some (r1, r2) := by rw [if_pos rfl] at H; exact H
  clear H
  have H := H1
  clear H1
  obtain ⟨ji5, hji5⟩ : ∃ j_ : Int, (wrap64 ((a0.size : Int) - (a1.size : Int))) = j_ := ⟨_, rfl⟩
  replace H : (if 0 ≤ (ji5) then (if (ji5) ≤ (a0.size : Int) then (some (a0.extract 0 ((ji5) : Int).toNat, true)) else (none)) else (none)) = some (r1, r2) := by first | (rw [hji5] at H; exact H) | (simp only [hji5] at H ⊢; exact H)
  (try rw [hji5] at A3)
  have hji5w : (IntKind.i64.wrap ((a0.size : Int) - (a1.size : Int))) = ji5 := (i64_w _).trans hji5
  by_cases c6 : 0 ≤ (ji5)
  ·rw [if_pos c6] at H
   have c6b0 := eq_true c6
   have c6b1 : decide (0 ≤ (ji5)) = true := decide_eq_true c6
   clear c6
   by_cases c7 : (ji5) ≤ (a0.size : Int)
   ·rw [if_pos c7] at H
    have c7b0 := eq_true c7
    have c7b1 : decide ((ji5) ≤ (a0.size : Int)) = true := decide_eq_true c7
    clear c7
    simp only [Option.some.injEq, Prod.mk.injEq] at H
    obtain ⟨rfl, rfl⟩ := H
    as_aux_lemma =>
     go_enter Tryd.func31, Tryd.ntmps31
     go_wp2_with (first | ((with_reducible refine gate_callee (f := 46) rfl ?_); refine goesL_ (some 8) rfl rfl Tryd.func46 (by kernel_rfl) rfl #[.string a0, .string a1] rfl ca ?_; (with_reducible refine (stringslite_HasSuffix.calls a0 a1 true _ A3.out).mono ?_); rintro e w' ⟨rfl, ⟨nd, rfl⟩⟩; refine ⟨_, rfl, ?_⟩))
     go_ret2
     exact ⟨by first | rfl | (simp; done) | (simp only [← hji5] <;> (first | rfl | simp)) | (simp [*]; done), by repeat (first | exact Drawn0.refl _ | apply Drawn0.step)⟩
   ·rw [if_neg c7] at H
    exact absurd H (by simp)
  ·rw [if_neg c6] at H
   exact absurd H (by simp)
 ·replace c4 := Bool.eq_false_iff.mpr c4
  subst c4
  have H1 : (some (a0, false)) = some (r1, r2) := by rw [if_neg (show ¬ (false = true) by decide)] at H; exact H
  clear H
  have H := H1
  clear H1
  as_aux_lemma =>
   simp only [Option.some.injEq, Prod.mk.injEq] at H
   obtain ⟨rfl, rfl⟩ := H
   go_enter Tryd.func31, Tryd.ntmps31
   go_wp2_with (first | ((with_reducible refine gate_callee (f := 46) rfl ?_); refine goesL_ (some 8) rfl rfl Tryd.func46 (by kernel_rfl) rfl #[.string a0, .string a1] rfl ca ?_; (with_reducible refine (stringslite_HasSuffix.calls a0 a1 false _ A3.out).mono ?_); rintro e w' ⟨rfl, ⟨nd, rfl⟩⟩; refine ⟨_, rfl, ?_⟩))
   go_ret2
   exact ⟨by first | rfl | (simp; done) | (simp [*]; done), by repeat (first | exact Drawn0.refl _ | apply Drawn0.step)⟩

/-! ### strings_CutSuffix: function 13 -/
def strings_CutSuffix.f (a0 : ByteArray) (a1 : ByteArray) : Option (ByteArray × Bool) := (stringslite_CutSuffix.f a0 a1).bind fun bt102 => (some (bt102.1, bt102.2))
set_option maxHeartbeats 8000000 in
set_option maxRecDepth 100000 in
theorem strings_CutSuffix.calls (a0 : ByteArray) (a1 : ByteArray) (r1 : ByteArray) (r2 : Bool) (w : World) (h : strings_CutSuffix.f a0 a1 = some (r1, r2)) :
  Calls Tryd.prog 13 #[.string a0, .string a1] w fun e w' => e = .returned (.tuple #[.string r1, .bool r2]) ∧ Drawn0 w w' := by
 have H : ((stringslite_CutSuffix.f a0 a1).bind fun bt102 => (some (bt102.1, bt102.2))) = some (r1, r2) := h
 clear h
 replace H := Option.bind_eq_some_iff.mp H
 obtain ⟨⟨t102, t103⟩, A30, H⟩ := H
 replace H : (some (t102, t103)) = some (r1, r2) := H
 have A3 := mkA A30
 clear A30
 as_aux_lemma =>
  simp only [Option.some.injEq, Prod.mk.injEq] at H
  obtain ⟨rfl, rfl⟩ := H
  go_enter Tryd.func13, Tryd.ntmps13
  go_wp2_with (first | ((with_reducible refine gate_callee (f := 31) rfl ?_); refine goesL_ (some 8) rfl rfl Tryd.func31 (by kernel_rfl) rfl #[.string a0, .string a1] rfl ca ?_; (with_reducible refine (stringslite_CutSuffix.calls a0 a1 t102 t103 _ A3.out).mono ?_); rintro e w' ⟨rfl, ⟨nd, rfl⟩⟩; refine ⟨_, rfl, ?_⟩))
  go_ret2
  exact ⟨by first | rfl | (simp; done) | (simp [*]; done), by repeat (first | exact Drawn0.refl _ | apply Drawn0.step)⟩

-- NOT PRINTED: function 78 (bytealg_IndexByteString)

-- NOT PRINTED: function 59 (stringslite_IndexByte)

-- NOT PRINTED: function 60 (bytealg_IndexString)

/-! ### bytealg_Cutover: function 61 -/
def bytealg_Cutover.f (a0 : Int) : Option (Int) := some (wrap64 (Int.tdiv (wrap64 (a0 + 16)) 8))
set_option maxHeartbeats 8000000 in
set_option maxRecDepth 100000 in
theorem bytealg_Cutover.calls (a0 : Int) (r : Int) (w : World) (h : bytealg_Cutover.f a0 = some r) :
  Calls Tryd.prog 61 #[.int .i64 a0] w fun e w' => e = .returned (.int .i64 r) ∧ Drawn0 w w' := by
 have H : (some (wrap64 (Int.tdiv (wrap64 (a0 + 16)) 8))) = some r := h
 clear h
 as_aux_lemma =>
  obtain rfl := Option.some.inj H
  go_enter Tryd.func61, Tryd.ntmps61
  go_wp2
  go_ret
  exact ⟨by first | rfl | (simp; done) | (simp [*]; done), by repeat (first | exact Drawn0.refl _ | apply Drawn0.step)⟩

-- NOT PRINTED: function 47 (stringslite_Index)

/-! ### strings_Index: function 33 -/
def strings_Index.f (a0 : ByteArray) (a1 : ByteArray) : Option Int := if a0.size < 4294967281 then some (Lib.index a0.data.toList a1.data.toList) else none
theorem strings_Index.calls (a0 : ByteArray) (a1 : ByteArray) (r : Int) (w : World) (hG : Gw w) (h : strings_Index.f a0 a1 = some r) :
  Calls Tryd.prog 33 #[.string a0, .string a1] w fun e w' => e = .returned (.int .i64 r) ∧ Below w.heap.size w w' := by
 obtain ⟨m, hm⟩ := hG
 unfold strings_Index.f at h
 split at h
 ·rename_i hs
  obtain rfl := Option.some.inj h
  exact (Any.strings_Index { Tryd.laysM143 with } a0 a1 m w hs hm).mono fun e w' h => ⟨h.1, by rw [h.2]; exact Below.refl _ _⟩
 ·cases h

/-! ### strings_Contains: function 32 -/
def strings_Contains.f (a0 : ByteArray) (a1 : ByteArray) : Option Bool := if a0.size < 4294967281 then some (Lib.contains a0.data.toList a1.data.toList) else none
theorem strings_Contains.calls (a0 : ByteArray) (a1 : ByteArray) (r : Bool) (w : World) (hG : Gw w) (h : strings_Contains.f a0 a1 = some r) :
  Calls Tryd.prog 32 #[.string a0, .string a1] w fun e w' => e = .returned (.bool r) ∧ Below w.heap.size w w' := by
 obtain ⟨m, hm⟩ := hG
 unfold strings_Contains.f at h
 split at h
 ·rename_i hs
  obtain rfl := Option.some.inj h
  exact (Any.strings_Contains { Tryd.laysM144 with } a0 a1 m w hs hm).mono fun e w' h => ⟨h.1, by rw [h.2]; exact Below.refl _ _⟩
 ·cases h

/-! ### text_Lower: function 34 -/
def text_Lower.small (c : UInt8) : UInt8 := if 65 ≤ c ∧ c ≤ 90 then c + 32 else c
def text_Lower.f (a0 : ByteArray) : Option ByteArray := if a0.size ≤ 4294967296 then some ⟨(a0.data.toList.map text_Lower.small).toArray⟩ else none
theorem text_Lower.small_hi (c : UInt8) (h1 : (65 : Int) ≤ c.toNat) (h2 : (c.toNat : Int) ≤ 90) : ((text_Lower.small c).toNat : Int) = ((c.toNat : Int) + 97) % 256 - 65 := by
 have e1 : 65 ≤ c := UInt8.le_iff_toNat_le.2 (by show 65 ≤ c.toNat; omega)
 have e2 : c ≤ 90 := UInt8.le_iff_toNat_le.2 (by show c.toNat ≤ 90; omega)
 unfold text_Lower.small
 rw [if_pos ⟨e1, e2⟩, UInt8.toNat_add]
 show (((c.toNat + 32) % 256 : Nat) : Int) = _
 omega
theorem text_Lower.small_lo (c : UInt8) (h : ¬((65 : Int) ≤ c.toNat ∧ (c.toNat : Int) ≤ 90)) : text_Lower.small c = c := by
 unfold text_Lower.small
 rw [if_neg]
 rintro ⟨e1, e2⟩
 have e1 := UInt8.le_iff_toNat_le.1 e1
 have e2 := UInt8.le_iff_toNat_le.1 e2
 have e1 : 65 ≤ c.toNat := e1
 have e2 : c.toNat ≤ 90 := e2
 omega
set_option maxHeartbeats 1000000 in
theorem text_Lower.sm (c : UInt8) (w : World) :
  Calls Tryd.prog 48 #[.int .u8 c.toNat] w fun e w' => e = .returned (.int .u8 (text_Lower.small c).toNat) ∧ Drawn0 w w' := by
 have hc := c.toNat_lt
 by_cases h1 : (65 : Int) ≤ c.toNat
 ·by_cases h2 : (c.toNat : Int) ≤ 90
  ·rw [text_Lower.small_hi c h1 h2]
   have b1 : decide ((65 : Int) ≤ c.toNat) = true := decide_eq_true h1
   have b2 : decide ((c.toNat : Int) ≤ 90) = true := decide_eq_true h2
   have e : ((c.toNat : Int) + 97) % 256 - 65 = (((c.toNat : Int) + 97) % 256 - 65) % 256 := by omega
   rw [e]
   clear e
   generalize (c.toNat : Int) = x at *
   clear h1 h2 hc
   go_enter Tryd.func48, Tryd.ntmps48
   go_wp2
   go_ret
   exact ⟨by first | rfl | (simp; done) | (simp [*]; done), by repeat (first | exact Drawn0.refl _ | apply Drawn0.step)⟩
  ·rw [text_Lower.small_lo c (fun h => h2 h.2)]
   have b1 : decide ((65 : Int) ≤ c.toNat) = true := decide_eq_true h1
   have b2 : decide ((c.toNat : Int) ≤ 90) = false := decide_eq_false h2
   generalize (c.toNat : Int) = x at *
   clear h1 h2 hc
   go_enter Tryd.func48, Tryd.ntmps48
   go_wp2
   go_ret
   exact ⟨by first | rfl | (simp; done) | (simp [*]; done), by repeat (first | exact Drawn0.refl _ | apply Drawn0.step)⟩
 ·rw [text_Lower.small_lo c (fun h => h1 h.1)]
  have b1 : decide ((65 : Int) ≤ c.toNat) = false := decide_eq_false h1
  generalize (c.toNat : Int) = x at *
  clear h1 hc
  go_enter Tryd.func48, Tryd.ntmps48
  go_wp2
  go_ret
  exact ⟨by first | rfl | (simp; done) | (simp [*]; done), by repeat (first | exact Drawn0.refl _ | apply Drawn0.step)⟩
/-- What lies in a row of bytes. -/
def text_Lower.lies (W : World) (g : Nat) (l : List UInt8) : Prop := ∀ j c, l[j]? = some c → W.cell? ⟨g, j, none⟩ = some (.int .u8 (c.toNat : Int)) ∧ W.frozen? ⟨g, j, none⟩ = false
theorem text_Lower.conv {ops : Array Oper} {rest : List Oper} {o : Oper} {a : Act} {Q : Exit → Act → World → Prop} {W : World} (hgd : o.guard = none) {s : ByteArray}
  (ho : ∃ x, o.op = .convert 9 33 x ∧ a.eval x = .string s)
  (h : ∀ g c w1, g = W.heap.size → text_Lower.lies w1 g s.data.toList → Below W.heap.size W w1 → wpList Tryd.prog ops Q rest (a.put o.dst (.slice (some ⟨g, 0, none⟩) s.size c)) w1) : wpList Tryd.prog ops Q (o :: rest) a W := by
 obtain ⟨x, ho, hx⟩ := ho
 have hrun := run_bytes_of_string (P := Tryd.prog) W 9 33 5 s Tryd.underlying9 Tryd.underlying33 Tryd.underlying5
 generalize grownCap W s.size 0 5 = c at hrun
 have hex : (execOp a.eval o).run Tryd.prog W = .ok (.value (.slice (some ⟨W.heap.size, 0, none⟩) s.size c)) (W.drew.alloc (.cells (bytesRow s c) 5 ((bytesRow s c).size, (bytesRow s c).size + 1))) := by
  unfold execOp
  simp only [ho, hx, Sem.run_bind, Sem.run_pure, hrun, Result.andThen_ok]
 have hat : (W.drew.alloc (.cells (bytesRow s c) 5 ((bytesRow s c).size, (bytesRow s c).size + 1))).heap[W.heap.size]? = some (.cells (bytesRow s c) 5 ((bytesRow s c).size, (bytesRow s c).size + 1)) := by
  show (W.heap.push _)[W.heap.size]? = _
  simp
 refine Kd.event_run hgd hex (h _ c _ rfl (fun j u hj => ?_) ?_)
 ·obtain ⟨hjl, hju⟩ := List.getElem?_eq_some_iff.1 hj
  have hjs : j < s.data.size := by simpa using hjl
  have hsz : (bytesRow s c).size = s.data.size + (c - s.size) := by simp [bytesRow]
  constructor
  ·unfold World.cell?
   simp only [hat]
   show (bytesRow s c)[j]? = _
   unfold bytesRow
   rw [Array.getElem?_append_left (by simpa using hjs), Array.getElem?_map, Array.getElem?_eq_getElem hjs]
   simp only [Option.map_some]
   rw [← hju, Array.getElem_toList]
  ·unfold World.frozen?
   simp only [hat]
   have : ¬ (bytesRow s c).size ≤ j := by omega
   simp [this]
 ·exact below_alloc (below_drew1 (Below.refl _ _)) _
theorem text_Lower.back {ops : Array Oper} {rest : List Oper} {o : Oper} {a : Act} {Q : Exit → Act → World → Prop} {W : World} (hgd : o.guard = none) {g off n c : Nat} (l : List UInt8)
  (ho : ∃ x, o.op = .convert 33 9 x ∧ a.eval x = .slice (some ⟨g, off, none⟩) n c) (hn : n = l.length)
  (hl : ∀ j (h : j < l.length), W.cell? ⟨g, off + j, none⟩ = some (.int .u8 (l[j].toNat : Int)))
  (h : wpList Tryd.prog ops Q rest (a.put o.dst (.string ⟨l.toArray⟩)) W) : wpList Tryd.prog ops Q (o :: rest) a W := by
 obtain ⟨x, ho, hx⟩ := ho
 subst hn
 have hrun := run_convert_bytes_back (P := Tryd.prog) W 33 9 5 ⟨g, off, none⟩ c l Tryd.underlying33 Tryd.underlying5 Tryd.underlying9 (fun j hj => by
  have h := hl j hj
  unfold Addr.add
  split
  ·rename_i e
   subst e
   exact h
  ·exact h)
 have hex : (execOp a.eval o).run Tryd.prog W = .ok (.value (.string ⟨l.toArray⟩)) W := by
  unfold execOp
  simp only [ho, hx, Sem.run_bind, Sem.run_pure, hrun, Result.andThen_ok]
 exact Kd.event_run hgd hex h
theorem text_Lower.set {W : World} {g i : Nat} {l : List UInt8} (h : text_Lower.lies W g l) (hi : i < l.length) (c : UInt8) : text_Lower.lies (W.setCell ⟨g, i, none⟩ (.int .u8 (c.toNat : Int))) g (l.set i c) := by
 intro j u hj
 by_cases e : i = j
 ·subst e
  rw [List.getElem?_set_self hi] at hj
  obtain rfl := Option.some.inj hj
  have hx := h i l[i] (List.getElem?_eq_getElem hi)
  exact ⟨World.cell?_setCell_same _ _ _ hx.1, (World.frozen?_setCell _ _ _ _).trans hx.2⟩
 ·rw [List.getElem?_set_ne e] at hj
  have hx := h j u hj
  exact ⟨(World.cell?_setCell_other _ _ _ _ (by intro h; injection h with h1 h2; exact e h2)).trans hx.1, (World.frozen?_setCell _ _ _ _).trans hx.2⟩
theorem text_Lower.keep {W W1 : World} {g : Nat} {l : List UInt8} (h : text_Lower.lies W g l) (hb : Below W.heap.size W W1) : text_Lower.lies W1 g l := by
 intro j u hj
 have h1 := h j u hj
 have hlt := World.block_lt_of_cell? W _ h1.1
 have hk := hb.block g hlt
 unfold World.cell? World.frozen? at h1 ⊢
 rw [hk]
 exact h1
def text_Lower.upto (l : List UInt8) (i : Nat) : List UInt8 := (l.take i).map text_Lower.small ++ l.drop i
theorem text_Lower.upto_len (l : List UInt8) (i : Nat) (h : i ≤ l.length) : (text_Lower.upto l i).length = l.length := by
 unfold text_Lower.upto
 rw [List.length_append, List.length_map, List.length_take, List.length_drop]
 omega
theorem text_Lower.upto_at (l : List UInt8) (i : Nat) (c : UInt8) (h : l[i]? = some c) : (text_Lower.upto l i)[i]? = some c := by
 obtain ⟨hi, _⟩ := List.getElem?_eq_some_iff.1 h
 unfold text_Lower.upto
 have hl : ((l.take i).map text_Lower.small).length = i := by rw [List.length_map, List.length_take]; omega
 rw [List.getElem?_append_right (by rw [hl]; exact Nat.le_refl _), hl, List.getElem?_drop, Nat.sub_self, Nat.add_zero, h]
theorem text_Lower.upto_set (l : List UInt8) (i : Nat) (c : UInt8) (h : l[i]? = some c) : (text_Lower.upto l i).set i (text_Lower.small c) = text_Lower.upto l (i + 1) := by
 obtain ⟨hi, he⟩ := List.getElem?_eq_some_iff.1 h
 unfold text_Lower.upto
 have hl : ((l.take i).map text_Lower.small).length = i := by rw [List.length_map, List.length_take]; omega
 rw [List.set_append_right _ _ (by rw [hl]; exact Nat.le_refl _), hl, Nat.sub_self, List.drop_eq_getElem_cons hi, List.set_cons_zero, List.take_add_one, h, List.map_append, List.append_assoc]
 rfl
theorem text_Lower.wr (n : Int) (h : -9223372036854775808 ≤ n ∧ n ≤ 9223372036854775807) : wrap64 n = n := by unfold wrap64; omega
set_option maxHeartbeats 1000000 in
set_option maxRecDepth 100000 in
theorem text_Lower.calls (a0 : ByteArray) (r : ByteArray) (w : World) (h : text_Lower.f a0 = some r) :
  Calls Tryd.prog 34 #[.string a0] w fun e w' => e = .returned (.string r) ∧ Below w.heap.size w w' := by
 unfold text_Lower.f at h
 split at h
 rotate_left
 ·cases h
 rename_i hs
 obtain rfl := Option.some.inj h
 have HS := mkA hs
 clear h hs
 have HB := mkA (Below.refl w.heap.size w)
 have HN := mkA (show a0.data.toList.length = a0.size from rfl)
 go_enter Tryd.func34, Tryd.ntmps34
 go_wp2_with (first | ((with_reducible refine gate_dst (N := 7) rfl ?_); refine text_Lower.conv (s := a0) ?hg ?ho ?_; (case hg => rfl); (case ho => refine ⟨_, rfl, ?_⟩; first | (with_reducible rfl) | (go_simp; done) | rfl | (go_simp; rfl)); intro gb cc w1 hg hlies hb; have n0_ := mkA (below_step (below_y HB.out) hb); have n1_ := mkA hlies; have n2_ := mkA ((gz hg HB.out : w.heap.size ≤ gb)); clear HB; have HB := n0_; have HL := n1_; have GE := n2_; clear n0_ n1_ n2_; clear hb hlies hg))
 go_loopw [10] (fun v10 wr => ∃ i : Nat, v10 = .int .i64 i ∧ Aside0 (i ≤ a0.size) ∧ Aside0 (text_Lower.lies wr gb (text_Lower.upto a0.data.toList i)) ∧ Aside0 (Below w.heap.size w wr)) (fun v10 _ => a0.size - (intOf v10).toNat)
 case atStart => exact ⟨0, rfl, ⟨Nat.zero_le _⟩, ⟨HL.out⟩, HB⟩
 case round =>
  clear HL HB
  obtain ⟨i, rfl, HI, HL, HB⟩ := hrel
  by_cases hlt : i < a0.size
  ·have hlt0 : decide ((i : Int) < (a0.size : Int)) = true := decide_eq_true (by omega)
   have hil : i < (text_Lower.upto a0.data.toList i).length := by rw [text_Lower.upto_len _ _ HI.out]; exact hlt
   have HIL := mkA hil
   have HLT := mkA hlt
   clear hil
   obtain ⟨ch, hcc⟩ : ∃ c, a0.data.toList[i]? = some c := ⟨_, List.getElem?_eq_getElem (show i < a0.data.toList.length from hlt)⟩
   have hx0 := (HL.out i ch (text_Lower.upto_at _ _ _ hcc)).1
   have HC := mkA hcc
   clear hcc
   have q0 : (i < a0.size) = True := eq_true hlt
   have q1 : ((i : Int) < (a0.size : Int)) = True := eq_true (by omega)
   clear hlt
   go_wp2_with (first | (go_at_call 48; (with_reducible refine (text_Lower.sm ch _).mono ?_); rintro e w3 ⟨rfl, hd⟩; have hb := Drawn0.below hd; have n0_ := mkA (below_step (below_y HB.out) hb); have n1_ := mkA (text_Lower.keep HL.out (below_y hb)); clear HB HL hx0; have HB := n0_; have HL := n1_; clear n0_ n1_ hb hd; have hx1 := (HL.out i ch (text_Lower.upto_at _ _ _ HC.out)).1; have hf1 := (HL.out i ch (text_Lower.upto_at _ _ _ HC.out)).2))
   go_roundw
   case rel => exact ⟨i + 1, by rw [text_Lower.wr _ ⟨by omega, by have := HLT.out; have := HS.out; omega⟩]; rfl, ⟨HLT.out⟩, ⟨by rw [← text_Lower.upto_set _ _ _ HC.out]; exact text_Lower.set HL.out HIL.out _⟩, ⟨below_set HB.out GE.out⟩⟩
   case measure => rw [text_Lower.wr _ ⟨by omega, by have := HLT.out; have := HS.out; omega⟩]; have := HLT.out; simp [intOf]; omega
  ·have hlt0 : decide ((i : Int) < (a0.size : Int)) = false := decide_eq_false (by omega)
   have hlt1 : decide (i < a0.size) = false := decide_eq_false hlt
   have hie : i = a0.size := by have := HI.out; omega
   have HE := mkA (show text_Lower.upto a0.data.toList i = a0.data.toList.map text_Lower.small by unfold text_Lower.upto; rw [hie, List.take_of_length_le (show a0.data.toList.length ≤ a0.size from Nat.le_refl _), List.drop_of_length_le (show a0.data.toList.length ≤ a0.size from Nat.le_refl _), List.append_nil])
   rw [HE.out] at HL
   clear hie hlt
   go_wp2_with (first | ((with_reducible refine gate_dst (N := 22) rfl ?_); refine text_Lower.back (l := List.map text_Lower.small a0.data.toList) (g := gb) (off := 0) (n := a0.size) (c := cc) ?hg ?ho ?hn ?hl ?_; (case hg => rfl); (case ho => refine ⟨_, rfl, ?_⟩; first | (with_reducible rfl) | (go_simp; done) | rfl | (go_simp; rfl)); (case hn => rw [List.length_map]; rfl); (case hl => intro j hj; rw [Nat.zero_add]; exact (HL.out j _ (List.getElem?_eq_getElem hj)).1)))
   go_ret
   exact ⟨rfl, HB.out⟩

/-! ### stamp_index: function 14 -/
mutual
def stamp_index.j0 : Nat → ByteArray → ByteArray → Bool → Option (Int)
 | 0, _, _, _ => none
 | k + 1, x0, x1, x12 => if x12 = true then (some (-1)) else ((text_Lower.f x1).bind fun t107 => (if t107.size + 1 ≤ 9223372036854775807 then ((strings_Index.f x0 (t107 ++ (⟨#[32]⟩ : ByteArray))).bind fun t108 => (if t108 < 0 then (stamp_index.j1 k t108 true) else (stamp_index.j1 k t108 ((Int.tmod t108 4) != 0)))) else (none)))
def stamp_index.j1 : Nat → Int → Bool → Option (Int)
 | 0, _, _ => none
 | k + 1, x5, x24 => if x24 = true then (some (-1)) else (some (wrap64 (Int.tdiv x5 4)))
end
def stamp_index.f (k : Nat) (a0 : ByteArray) (a1 : ByteArray) : Option (Int) := if (a1.size : Int) = 3 then ((strings_Contains.f a1 (⟨#[32]⟩ : ByteArray)).bind fun t106 => (stamp_index.j0 k a0 a1 t106)) else (stamp_index.j0 k a0 a1 true)
theorem stamp_index.mono_l : ∀ k, (∀ y0 y1 y2, LeO (stamp_index.j0 k y0 y1 y2) (stamp_index.j0 (k + 1) y0 y1 y2)) ∧ (∀ y0 y1, LeO (stamp_index.j1 k y0 y1) (stamp_index.j1 (k + 1) y0 y1))
 | 0 => ⟨fun _ _ _ r h => by simp [stamp_index.j0] at h, fun _ _ r h => by simp [stamp_index.j1] at h⟩
 | k + 1 => by
  obtain ⟨ih0, ih1⟩ := stamp_index.mono_l k
  refine ⟨?_, ?_⟩
  ·intro y0 y1 y2
   unfold stamp_index.j0
   repeat' first
   | (with_reducible exact ih0 _ _ _)
   | (with_reducible exact ih1 _ _)
   | (with_reducible exact LeO.refl _)
   | (with_reducible exact LeO.none _)
   | (with_reducible refine LeO.ite ?_ ?_)
   | (with_reducible refine LeO.bind ?_ (fun _ => ?_))
   | exact ih0 _ _ _
   | exact ih1 _ _
   | exact LeO.none _
   | refine LeO.ite ?_ ?_
   | refine LeO.bind ?_ (fun _ => ?_)
  ·intro y0 y1
   unfold stamp_index.j1
   repeat' first
   | (with_reducible exact ih0 _ _ _)
   | (with_reducible exact ih1 _ _)
   | (with_reducible exact LeO.refl _)
   | (with_reducible exact LeO.none _)
   | (with_reducible refine LeO.ite ?_ ?_)
   | (with_reducible refine LeO.bind ?_ (fun _ => ?_))
   | exact ih0 _ _ _
   | exact ih1 _ _
   | exact LeO.none _
   | refine LeO.ite ?_ ?_
   | refine LeO.bind ?_ (fun _ => ?_)
theorem stamp_index.mono : ∀ a0 a1 k, LeO (stamp_index.f k a0 a1) (stamp_index.f (k + 1) a0 a1) := by
 intro a0 a1 k
 obtain ⟨ih0, ih1⟩ := stamp_index.mono_l k
 unfold stamp_index.f
 repeat' first
   | (with_reducible exact ih0 _ _ _)
   | (with_reducible exact ih1 _ _)
   | (with_reducible exact LeO.refl _)
   | (with_reducible exact LeO.none _)
   | (with_reducible refine LeO.ite ?_ ?_)
   | (with_reducible refine LeO.bind ?_ (fun _ => ?_))
   | exact ih0 _ _ _
   | exact ih1 _ _
   | exact LeO.none _
   | refine LeO.ite ?_ ?_
   | refine LeO.bind ?_ (fun _ => ?_)
set_option maxHeartbeats 8000000 in
set_option maxRecDepth 100000 in
theorem stamp_index.calls (k : Nat) (a0 : ByteArray) (a1 : ByteArray) (r : Int) (w : World) (hG : Gw w) (h : stamp_index.f k a0 a1 = some r) :
  Calls Tryd.prog 14 #[.string a0, .string a1] w fun e w' => e = .returned (.int .i64 r) ∧ Below w.heap.size w w' := by
 have HB := mkA (Below.refl w.heap.size w)
 have H : (if (a1.size : Int) = 3 then ((strings_Contains.f a1 (⟨#[32]⟩ : ByteArray)).bind fun t106 => (stamp_index.j0 k a0 a1 t106)) else (stamp_index.j0 k a0 a1 true)) = some r := h
 clear h
 have HC3 := mkA H
 clear H
 go_enter Tryd.func14, Tryd.ntmps14
 go_upto_region 1 with (fail)
 go_cut [12] (fun v12 wc => ∃ (kq : Nat) (x12_2 : Bool), v12 = .bool x12_2 ∧ Aside0 (stamp_index.j0 kq a0 a1 x12_2 = some r) ∧ Aside0 (kq ≤ k) ∧ Aside0 (Below w.heap.size w wc))
 case first =>
  have H := HC3.out
  clear HC3
  by_cases c4 : (a1.size : Int) = 3
  ·rw [if_pos c4] at H
   have c4b0 : ((a1.size : Int) == 3) = true := beq_iff_eq.mpr c4
   have c4b1 : ((a1.size : Int) != 3) = false := bne_eq_false_iff_eq.mpr c4
   clear c4
   (first | rw [c4b0] | (simp only [i64_w, i32_w]; rw [c4b0]) | skip)
   replace H := Option.bind_eq_some_iff.mp H
   obtain ⟨t106, A50, H⟩ := H
   replace H : (stamp_index.j0 k a0 a1 t106) = some r := H
   have A5 := mkA A50
   clear A50
   as_aux_lemma =>
    have H' := mkA H
    clear H
    go_wp2_with (first | (go_at_call 32; (with_reducible refine (strings_Contains.calls (hG := ?sideG) a1 (⟨#[32]⟩ : ByteArray) t106 _ A5.out).mono ?_); (case sideG => exact gG hG (below_y HB.out)); rintro e w6 ⟨rfl, hb⟩; have n0_ := mkA (below_step (below_y HB.out) hb); clear HB; have HB := n0_; clear n0_; (try clear hb); (try clear hb2); (try clear hk); (try clear hi)))
    go_meet
    case rel => exact ⟨_, (t106), (by first | rfl | (simp; done) | (simp [*]; done)), H', ⟨by first | omega | exact Nat.le_refl _⟩, ⟨below_y HB.out⟩⟩
  ·rw [if_neg c4] at H
   have c4b0 : ((a1.size : Int) == 3) = false := beq_eq_false_iff_ne.mpr c4
   have c4b1 : ((a1.size : Int) != 3) = true := bne_iff_ne.mpr c4
   (first | rw [c4b0] | (simp only [i64_w, i32_w]; rw [c4b0]) | skip)
   as_aux_lemma =>
    have H' := mkA H
    clear H
    go_wp2
    go_meet
    case rel => exact ⟨_, (true), (by first | rfl | (simp; done) | (simp [*]; done)), H', ⟨by first | omega | exact Nat.le_refl _⟩, ⟨below_y HB.out⟩⟩
 case rest =>
  clear HC3
  try clear c1
  try clear p2
  try clear c4
  try clear c4b0
  try clear c4b1
  obtain ⟨kq, x12_2, rfl, HA, HJ2, HB⟩ := hcut
  cases kq with
  | zero => exact absurd HA.out (by simp [stamp_index.j0])
  | succ kj2 =>
   have H := HA.out
   clear HA
   simp only [stamp_index.j0] at H
   by_cases c7 : x12_2 = true
   ·subst c7
    have H1 : (some (-1)) = some r := by rw [if_pos rfl] at H; exact H
    clear H
    have H := H1
    clear H1
    as_aux_lemma =>
     obtain rfl := Option.some.inj H
     go_wp2
     go_ret
     exact ⟨by first | rfl | (simp [errW_none, errW_some] <;> rfl) | (simp [*, errW_none, errW_some] <;> rfl), below_y HB.out⟩
   ·replace c7 := Bool.eq_false_iff.mpr c7
    subst c7
    have H1 : ((text_Lower.f a1).bind fun t107 => (if t107.size + 1 ≤ 9223372036854775807 then ((strings_Index.f a0 (t107 ++ (⟨#[32]⟩ : ByteArray))).bind fun t108 => (if t108 < 0 then (stamp_index.j1 kj2 t108 true) else (stamp_index.j1 kj2 t108 ((Int.tmod t108 4) != 0)))) else (none))) = some r := by rw [if_neg (show ¬ (false = true) by decide)] at H; exact H
    clear H
    have H := H1
    clear H1
    replace H := Option.bind_eq_some_iff.mp H
    obtain ⟨t107, A80, H⟩ := H
    replace H : (if t107.size + 1 ≤ 9223372036854775807 then ((strings_Index.f a0 (t107 ++ (⟨#[32]⟩ : ByteArray))).bind fun t108 => (if t108 < 0 then (stamp_index.j1 kj2 t108 true) else (stamp_index.j1 kj2 t108 ((Int.tmod t108 4) != 0)))) else (none)) = some r := H
    have A8 := mkA A80
    clear A80
    by_cases c9 : t107.size + 1 ≤ 9223372036854775807
    ·rw [if_pos c9] at H
     have c9b0 := eq_true c9
     have c9b1 : decide (t107.size + 1 ≤ 9223372036854775807) = true := decide_eq_true c9
     try have c9b2 : (9223372036854775807 < t107.size + 1) = False := eq_false (Nat.not_lt.2 c9)
     replace H := Option.bind_eq_some_iff.mp H
     obtain ⟨t108, A100, H⟩ := H
     replace H : (if t108 < 0 then (stamp_index.j1 kj2 t108 true) else (stamp_index.j1 kj2 t108 ((Int.tmod t108 4) != 0))) = some r := H
     have A10 := mkA A100
     clear A100
     have HC11 := mkA H
     clear H
     go_upto_region 4 with (first | ((with_reducible refine gate_callee (f := 34) rfl ?_); refine goesL_ (some 15) rfl rfl Tryd.func34 (by kernel_rfl) rfl #[.string a1] rfl ca ?_; (with_reducible refine (text_Lower.calls a1 t107 _ A8.out).mono ?_); rintro e w12 ⟨rfl, hb⟩; refine ⟨_, rfl, ?_⟩; have n0_ := mkA (below_step (below_y HB.out) hb); clear HB; have HB := n0_; clear n0_; (try clear hb); (try clear hb2); (try clear hk); (try clear hi)) | ((with_reducible refine gate_callee (f := 33) rfl ?_); refine goesL_ (some 17) rfl rfl Tryd.func33 (by kernel_rfl) rfl #[.string a0, .string (t107 ++ (⟨#[32]⟩ : ByteArray))] rfl ca ?_; (with_reducible refine (strings_Index.calls (hG := ?sideG) a0 (t107 ++ (⟨#[32]⟩ : ByteArray)) t108 _ A10.out).mono ?_); (case sideG => exact gG hG (below_y HB.out)); rintro e w13 ⟨rfl, hb⟩; refine ⟨_, rfl, ?_⟩; have n0_ := mkA (below_step (below_y HB.out) hb); clear HB; have HB := n0_; clear n0_; (try clear hb); (try clear hb2); (try clear hk); (try clear hi)))
     (try simp only [Act.put, sA, s0, sS])
     go_cut [24] (fun v24 wc => ∃ (kq : Nat) (x24_10 : Bool), v24 = .bool x24_10 ∧ Aside0 (stamp_index.j1 kq t108 x24_10 = some r) ∧ Aside0 (kq ≤ kj2) ∧ Aside0 (Below w.heap.size w wc))
     case first =>
      have H := HC11.out
      clear HC11
      by_cases c14 : t108 < 0
      ·rw [if_pos c14] at H
       have c14b0 : decide (t108 < 0) = true := decide_eq_true c14
       clear c14
       (first | rw [c14b0] | (simp only [i64_w, i32_w]; rw [c14b0]) | skip)
       as_aux_lemma =>
        have H' := mkA H
        clear H
        go_wp2
        go_meet
        case rel => exact ⟨_, (true), (by first | rfl | (simp; done) | (simp [*]; done)), H', ⟨by have := HJ2.out; first | omega | exact Nat.le_refl _⟩, ⟨below_y HB.out⟩⟩
      ·rw [if_neg c14] at H
       have c14b0 : decide (t108 < 0) = false := decide_eq_false c14
       clear c14
       (first | rw [c14b0] | (simp only [i64_w, i32_w]; rw [c14b0]) | skip)
       as_aux_lemma =>
        have H' := mkA H
        clear H
        go_wp2
        go_meet
        case rel => exact ⟨_, (((Int.tmod t108 4) != 0)), (by first | rfl | (simp; done) | (simp [*]; done)), H', ⟨by have := HJ2.out; first | omega | exact Nat.le_refl _⟩, ⟨below_y HB.out⟩⟩
     case rest =>
      clear HC11
      try clear c1
      try clear p2
      try clear c3
      try clear c4
      try clear c4b0
      try clear c4b1
      try clear c7
      try clear c9
      try clear c9b0
      try clear c9b1
      try clear c9b2
      try clear c14
      try clear c14b0
      try clear p2
      obtain ⟨kq, x24_10, rfl, HA, HJ10, HB⟩ := hcut
      cases kq with
      | zero => exact absurd HA.out (by simp [stamp_index.j1])
      | succ kj10 =>
       have H := HA.out
       clear HA
       simp only [stamp_index.j1] at H
       by_cases c15 : x24_10 = true
       ·subst c15
        have H1 : (some (-1)) = some r := by rw [if_pos rfl] at H; exact H
        clear H
        have H := H1
        clear H1
        as_aux_lemma =>
         obtain rfl := Option.some.inj H
         go_wp2
         go_ret
         exact ⟨by first | rfl | (simp [errW_none, errW_some] <;> rfl) | (simp [*, errW_none, errW_some] <;> rfl), below_y HB.out⟩
       ·replace c15 := Bool.eq_false_iff.mpr c15
        subst c15
        have H1 : (some (wrap64 (Int.tdiv t108 4))) = some r := by rw [if_neg (show ¬ (false = true) by decide)] at H; exact H
        clear H
        have H := H1
        clear H1
        as_aux_lemma =>
         obtain rfl := Option.some.inj H
         go_wp2
         go_ret
         exact ⟨by first | rfl | (simp [errW_none, errW_some] <;> rfl) | (simp [*, errW_none, errW_some] <;> rfl), below_y HB.out⟩
    ·rw [if_neg c9] at H
     exact absurd H (by simp)

-- NOT PRINTED: function 88 (strings_IndexRune)

-- NOT PRINTED: function 81 (strings_ContainsRune)

-- NOT PRINTED: function 68 (strings_trimLeftUnicode)

/-! ### utf8_RuneStart: function 89 -/
def utf8_RuneStart.f (a0 : Int) : Option (Bool) := some ((Go.bits .and .u8 a0 192) != 128)
set_option maxHeartbeats 8000000 in
set_option maxRecDepth 100000 in
theorem utf8_RuneStart.calls (a0 : Int) (r : Bool) (w : World) (h : utf8_RuneStart.f a0 = some r) :
  Calls Tryd.prog 89 #[.int .u8 a0] w fun e w' => e = .returned (.bool r) ∧ Drawn0 w w' := by
 have H : (some ((Go.bits .and .u8 a0 192) != 128)) = some r := h
 clear h
 as_aux_lemma =>
  obtain rfl := Option.some.inj H
  go_enter Tryd.func89, Tryd.ntmps89
  go_wp2
  go_ret
  exact ⟨by first | rfl | (simp; done) | (simp [*]; done), by repeat (first | exact Drawn0.refl _ | apply Drawn0.step)⟩

-- NOT PRINTED: function 82 (utf8_DecodeLastRuneInString)

-- NOT PRINTED: function 69 (strings_trimRightUnicode)

/-! ### strings_Trim: function 49 -/
def strings_Trim.f (a0 : ByteArray) (a1 : ByteArray) : Option ByteArray := if a1.size < 4294967281 ∧ a0.size ≤ 9223372036854775807 ∧ a1.data.toList.all (fun b => decide (b.toNat < 128)) = true then some ⟨(Lib.trimS a0.data.toList a1.data.toList).toArray⟩ else none
theorem strings_Trim.calls (a0 : ByteArray) (a1 : ByteArray) (r : ByteArray) (w : World) (h : strings_Trim.f a0 a1 = some r) :
  Calls Tryd.prog 49 #[.string a0, .string a1] w fun e w' => e = .returned (.string r) ∧ Below w.heap.size w w' := by
 unfold strings_Trim.f at h
 split at h
 ·rename_i hs
  obtain rfl := Option.some.inj h
  exact Any.strings_Trim_laid Tryd.lays160 (by kernel_rfl) a0 a1 w hs.2.1 hs.1 (ascii_of_all hs.2.2)
 ·cases h

/-! ### stamp_digits: function 35 -/
mutual
def stamp_digits.j0 : Nat → ByteArray → Bool → Option (Int)
 | 0, _, _ => none
 | k + 1, x0, x23 => if x23 = true then (some (-1)) else (stamp_digits.l0 k x0 0 (x0.size : Int) 0)
def stamp_digits.l0 : Nat → ByteArray → Int → Int → Int → Option (Int)
 | 0, _, _, _, _ => none
 | k + 1, x0, x7, x25, x26 => if x26 < x25 then (if 0 ≤ x26 then (if x26 < (x0.size : Int) then (stamp_digits.l0 k x0 (wrap64 ((wrap64 (10 * x7)) + (((bt x0 x26) - 48) % 256))) x25 (wrap64 (x26 + 1))) else (none)) else (none)) else (some x7)
end
def stamp_digits.f (k : Nat) (a0 : ByteArray) (a1 : Int) (a2 : Int) : Option (Int) := if (a0.size : Int) < a1 then (stamp_digits.j0 k a0 true) else (if (a0.size : Int) > a2 then (stamp_digits.j0 k a0 true) else ((strings_Trim.f a0 (⟨#[48, 49, 50, 51, 52, 53, 54, 55, 56, 57]⟩ : ByteArray)).bind fun t111 => (stamp_digits.j0 k a0 (t111.toList != ([] : List UInt8)))))
theorem stamp_digits.mono_l : ∀ k, (∀ y0 y1, LeO (stamp_digits.j0 k y0 y1) (stamp_digits.j0 (k + 1) y0 y1)) ∧ (∀ y0 y1 y2 y3, LeO (stamp_digits.l0 k y0 y1 y2 y3) (stamp_digits.l0 (k + 1) y0 y1 y2 y3))
 | 0 => ⟨fun _ _ r h => by simp [stamp_digits.j0] at h, fun _ _ _ _ r h => by simp [stamp_digits.l0] at h⟩
 | k + 1 => by
  obtain ⟨ih0, ih1⟩ := stamp_digits.mono_l k
  refine ⟨?_, ?_⟩
  ·intro y0 y1
   unfold stamp_digits.j0
   repeat' first
   | (with_reducible exact ih0 _ _)
   | (with_reducible exact ih1 _ _ _ _)
   | (with_reducible exact LeO.refl _)
   | (with_reducible exact LeO.none _)
   | (with_reducible refine LeO.ite ?_ ?_)
   | (with_reducible refine LeO.bind ?_ (fun _ => ?_))
   | exact ih0 _ _
   | exact ih1 _ _ _ _
   | exact LeO.none _
   | refine LeO.ite ?_ ?_
   | refine LeO.bind ?_ (fun _ => ?_)
  ·intro y0 y1 y2 y3
   unfold stamp_digits.l0
   repeat' first
   | (with_reducible exact ih0 _ _)
   | (with_reducible exact ih1 _ _ _ _)
   | (with_reducible exact LeO.refl _)
   | (with_reducible exact LeO.none _)
   | (with_reducible refine LeO.ite ?_ ?_)
   | (with_reducible refine LeO.bind ?_ (fun _ => ?_))
   | exact ih0 _ _
   | exact ih1 _ _ _ _
   | exact LeO.none _
   | refine LeO.ite ?_ ?_
   | refine LeO.bind ?_ (fun _ => ?_)
theorem stamp_digits.mono : ∀ a0 a1 a2 k, LeO (stamp_digits.f k a0 a1 a2) (stamp_digits.f (k + 1) a0 a1 a2) := by
 intro a0 a1 a2 k
 obtain ⟨ih0, ih1⟩ := stamp_digits.mono_l k
 unfold stamp_digits.f
 repeat' first
   | (with_reducible exact ih0 _ _)
   | (with_reducible exact ih1 _ _ _ _)
   | (with_reducible exact LeO.refl _)
   | (with_reducible exact LeO.none _)
   | (with_reducible refine LeO.ite ?_ ?_)
   | (with_reducible refine LeO.bind ?_ (fun _ => ?_))
   | exact ih0 _ _
   | exact ih1 _ _ _ _
   | exact LeO.none _
   | refine LeO.ite ?_ ?_
   | refine LeO.bind ?_ (fun _ => ?_)
set_option maxHeartbeats 8000000 in
set_option maxRecDepth 100000 in
theorem stamp_digits.calls (k : Nat) (a0 : ByteArray) (a1 : Int) (a2 : Int) (r : Int) (w : World) (h : stamp_digits.f k a0 a1 a2 = some r) :
  Calls Tryd.prog 35 #[.string a0, .int .i64 a1, .int .i64 a2] w fun e w' => e = .returned (.int .i64 r) ∧ Below w.heap.size w w' := by
 have HB := mkA (Below.refl w.heap.size w)
 have H : (if (a0.size : Int) < a1 then (stamp_digits.j0 k a0 true) else (if (a0.size : Int) > a2 then (stamp_digits.j0 k a0 true) else ((strings_Trim.f a0 (⟨#[48, 49, 50, 51, 52, 53, 54, 55, 56, 57]⟩ : ByteArray)).bind fun t111 => (stamp_digits.j0 k a0 (t111.toList != ([] : List UInt8)))))) = some r := h
 clear h
 have HC4 := mkA H
 clear H
 go_enter Tryd.func35, Tryd.ntmps35
 go_upto_region 1 with (fail)
 go_cut [23] (fun v23 wc => ∃ (kq : Nat) (x23_3 : Bool), v23 = .bool x23_3 ∧ Aside0 (stamp_digits.j0 kq a0 x23_3 = some r) ∧ Aside0 (kq ≤ k) ∧ Aside0 (Below w.heap.size w wc))
 case first =>
  have H := HC4.out
  clear HC4
  by_cases c5 : (a0.size : Int) < a1
  ·rw [if_pos c5] at H
   have c5b0 : decide ((a0.size : Int) < a1) = true := decide_eq_true c5
   clear c5
   (first | rw [c5b0] | (simp only [i64_w, i32_w]; rw [c5b0]) | skip)
   as_aux_lemma =>
    have H' := mkA H
    clear H
    go_wp2
    go_meet
    case rel => exact ⟨_, (true), (by first | rfl | (simp; done) | (simp [*]; done)), H', ⟨by first | omega | exact Nat.le_refl _⟩, ⟨below_y HB.out⟩⟩
  ·rw [if_neg c5] at H
   have c5b0 : decide ((a0.size : Int) < a1) = false := decide_eq_false c5
   clear c5
   (first | rw [c5b0] | (simp only [i64_w, i32_w]; rw [c5b0]) | skip)
   by_cases c6 : (a0.size : Int) > a2
   ·rw [if_pos c6] at H
    have c6b0 : decide (a2 < (a0.size : Int)) = true := decide_eq_true c6
    clear c6
    as_aux_lemma =>
     have H' := mkA H
     clear H
     go_wp2
     go_meet
     case rel => exact ⟨_, (true), (by first | rfl | (simp; done) | (simp [*]; done)), H', ⟨by first | omega | exact Nat.le_refl _⟩, ⟨below_y HB.out⟩⟩
   ·rw [if_neg c6] at H
    have c6b0 : decide (a2 < (a0.size : Int)) = false := decide_eq_false c6
    clear c6
    replace H := Option.bind_eq_some_iff.mp H
    obtain ⟨t111, A70, H⟩ := H
    replace H : (stamp_digits.j0 k a0 (t111.toList != ([] : List UInt8))) = some r := H
    have A7 := mkA A70
    clear A70
    as_aux_lemma =>
     have H' := mkA H
     clear H
     go_wp2_with (first | (go_at_call 49; (with_reducible refine (strings_Trim.calls a0 (⟨#[48, 49, 50, 51, 52, 53, 54, 55, 56, 57]⟩ : ByteArray) t111 _ A7.out).mono ?_); rintro e w8 ⟨rfl, hb⟩; have n0_ := mkA (below_step (below_y HB.out) hb); clear HB; have HB := n0_; clear n0_; (try clear hb); (try clear hb2); (try clear hk); (try clear hi)))
     go_meet
     case rel => exact ⟨_, ((t111.toList != ([] : List UInt8))), (by first | rfl | (simp; done) | (simp [*]; done) | (cases t111.toList <;> rfl)), H', ⟨by first | omega | exact Nat.le_refl _⟩, ⟨below_y HB.out⟩⟩
 case rest =>
  clear HC4
  try clear p2
  try clear c3
  try clear c5
  try clear c5b0
  try clear c6
  try clear c6b0
  obtain ⟨kq, x23_3, rfl, HA, HJ3, HB⟩ := hcut
  cases kq with
  | zero => exact absurd HA.out (by simp [stamp_digits.j0])
  | succ kj3 =>
   have H := HA.out
   clear HA
   simp only [stamp_digits.j0] at H
   by_cases c9 : x23_3 = true
   ·subst c9
    have H1 : (some (-1)) = some r := by rw [if_pos rfl] at H; exact H
    clear H
    have H := H1
    clear H1
    as_aux_lemma =>
     obtain rfl := Option.some.inj H
     go_wp2
     go_ret
     exact ⟨by first | rfl | (simp [errW_none, errW_some] <;> rfl) | (simp [*, errW_none, errW_some] <;> rfl), below_y HB.out⟩
   ·replace c9 := Bool.eq_false_iff.mpr c9
    subst c9
    have H1 : (stamp_digits.l0 kj3 a0 0 (a0.size : Int) 0) = some r := by rw [if_neg (show ¬ (false = true) by decide)] at H; exact H
    clear H
    have H := H1
    clear H1
    have H' := mkA H
    clear H
    go_wp2
    go_loopg [7, 26] kj3 (fun kq v7 v26 w' => ∃ (x7_2 : Int) (x26_2 : Int), v7 = .int .i64 x7_2 ∧ v26 = .int .i64 x26_2 ∧ Aside0 (stamp_digits.l0 kq a0 x7_2 (a0.size : Int) x26_2 = some r) ∧ Aside0 (kq ≤ kj3) ∧ Aside0 (Below w.heap.size w w'))
    case atStart => exact ⟨(0), (0), (by first | rfl | (simp; done) | (simp [*]; done)), (by first | rfl | (simp; done) | (simp [*]; done)), H', ⟨Nat.le_refl _⟩, ⟨below_y HB.out⟩⟩
    case round =>
     clear H'
     try clear p2
     try clear c3
     try clear c5
     try clear c5b0
     try clear c6
     try clear c6b0
     try clear c9
     try clear p2
     obtain ⟨x7_2, x26_2, rfl, rfl, HA, HK2, HB⟩ := hrel
     cases gk with
     | zero => exact absurd HA.out (by simp [stamp_digits.l0])
     | succ k2 =>
      have H := HA.out
      clear HA
      simp only [stamp_digits.l0] at H
      by_cases c10 : x26_2 < (a0.size : Int)
      ·rw [if_pos c10] at H
       have c10b0 : decide (x26_2 < (a0.size : Int)) = true := decide_eq_true c10
       clear c10
       by_cases c11 : 0 ≤ x26_2
       ·rw [if_pos c11] at H
        have c11b0 : decide (0 ≤ x26_2) = true := decide_eq_true c11
        clear c11
        by_cases c12 : x26_2 < (a0.size : Int)
        ·rw [if_pos c12] at H
         have c12b0 : decide (x26_2 < (a0.size : Int)) = true := decide_eq_true c12
         clear c12
         as_aux_lemma =>
          have H' := mkA H
          clear H
          have p13 : 0 ≤ (x26_2 : Int) := odt
          have q13 : x26_2 < (a0.size : Int) := odt
          have hx13 := bt_at a0 x26_2
          replace p13 := eq_true p13
          replace q13 := eq_true q13
          go_wp2
          go_roundg k2
          case measure => have := HJ3.out; have := HK2.out; omega
          case rel => exact ⟨(wrap64 ((wrap64 (10 * x7_2)) + (((bt a0 x26_2) - 48) % 256))), (wrap64 (x26_2 + 1)), (by first | rfl | (simp; done) | (simp [*]; done)), (by first | rfl | (simp; done) | (simp [*]; done)), H', ⟨by have := HJ3.out; have := HK2.out; omega⟩, ⟨below_y HB.out⟩⟩
        ·rw [if_neg c12] at H
         exact absurd H (by simp)
       ·rw [if_neg c11] at H
        exact absurd H (by simp)
      ·rw [if_neg c10] at H
       have c10b0 : decide (x26_2 < (a0.size : Int)) = false := decide_eq_false c10
       clear c10
       as_aux_lemma =>
        obtain rfl := Option.some.inj H
        go_wp2
        go_ret
        exact ⟨by first | rfl | (simp [errW_none, errW_some] <;> rfl) | (simp [*, errW_none, errW_some] <;> rfl), below_y HB.out⟩

-- NOT PRINTED: function 65 (strings_makeASCIISet)

-- NOT PRINTED: function 80 (strings_asciiSet_contains)

-- NOT PRINTED: function 66 (strings_trimLeftASCII)

-- NOT PRINTED: function 67 (strings_trimRightASCII)

-- NOT PRINTED: function 85 (utf8_decodeRuneInStringSlow)

-- NOT PRINTED: function 73 (utf8_DecodeRuneInString)

/-! ### strings_IndexByte: function 70 -/
def strings_IndexByte.f (a0 : ByteArray) (a1 : Int) : Option Int := some (Lib.indexByte a0.data.toList a1.toNat.toUInt8)
theorem strings_IndexByte.calls (a0 : ByteArray) (a1 : Int) (r : Int) (w : World) (h : strings_IndexByte.f a0 a1 = some r) :
  Calls Tryd.prog 70 #[.string a0, .int .u8 a1] w fun e w' => e = .returned (.int .i64 r) ∧ Below w.heap.size w w' := by
 obtain rfl := Option.some.inj h
 exact (Any.strings_IndexByte Tryd.lays137 a0 a1 w).mono fun e w' h => ⟨h.1, by rw [h.2]; exact Below.refl _ _⟩

/-! ### text_Cut: function 50 -/
def text_Cut.f (a0 : ByteArray) (a1 : Int) : Option (ByteArray × ByteArray × Bool) := (strings_IndexByte.f a0 a1).bind fun t123 => (if t123 < 0 then (some (a0, (⟨#[]⟩ : ByteArray), false)) else (if 0 ≤ t123 then (if t123 ≤ (a0.size : Int) then (if 0 ≤ (wrap64 (t123 + 1)) then (if (wrap64 (t123 + 1)) ≤ (a0.size : Int) then (some (a0.extract 0 (t123 : Int).toNat, a0.extract ((wrap64 (t123 + 1)) : Int).toNat a0.size, true)) else (none)) else (none)) else (none)) else (none)))
set_option maxHeartbeats 8000000 in
set_option maxRecDepth 100000 in
theorem text_Cut.calls (a0 : ByteArray) (a1 : Int) (r1 : ByteArray) (r2 : ByteArray) (r3 : Bool) (w : World) (h : text_Cut.f a0 a1 = some (r1, r2, r3)) :
  Calls Tryd.prog 50 #[.string a0, .int .u8 a1] w fun e w' => e = .returned (.tuple #[.string r1, .string r2, .bool r3]) ∧ Below w.heap.size w w' := by
 have HB := mkA (Below.refl w.heap.size w)
 have H : ((strings_IndexByte.f a0 a1).bind fun t123 => (if t123 < 0 then (some (a0, (⟨#[]⟩ : ByteArray), false)) else (if 0 ≤ t123 then (if t123 ≤ (a0.size : Int) then (if 0 ≤ (wrap64 (t123 + 1)) then (if (wrap64 (t123 + 1)) ≤ (a0.size : Int) then (some (a0.extract 0 (t123 : Int).toNat, a0.extract ((wrap64 (t123 + 1)) : Int).toNat a0.size, true)) else (none)) else (none)) else (none)) else (none)))) = some (r1, r2, r3) := h
 clear h
 replace H := Option.bind_eq_some_iff.mp H
 obtain ⟨t123, A30, H⟩ := H
 replace H : (if t123 < 0 then (some (a0, (⟨#[]⟩ : ByteArray), false)) else (if 0 ≤ t123 then (if t123 ≤ (a0.size : Int) then (if 0 ≤ (wrap64 (t123 + 1)) then (if (wrap64 (t123 + 1)) ≤ (a0.size : Int) then (some (a0.extract 0 (t123 : Int).toNat, a0.extract ((wrap64 (t123 + 1)) : Int).toNat a0.size, true)) else (none)) else (none)) else (none)) else (none))) = some (r1, r2, r3) := H
 have A3 := mkA A30
 clear A30
 by_cases c4 : t123 < 0
 ·rw [if_pos c4] at H
  have c4b0 : decide (t123 < 0) = true := decide_eq_true c4
  clear c4
  simp only [Option.some.injEq, Prod.mk.injEq] at H
  obtain ⟨rfl, rfl, rfl⟩ := H
  as_aux_lemma =>
   go_enter Tryd.func50, Tryd.ntmps50
   go_wp2_with (first | (go_at_call 70; (with_reducible refine (strings_IndexByte.calls a0 a1 t123 _ A3.out).mono ?_); rintro e w5 ⟨rfl, hb⟩; have n0_ := mkA (below_step (below_y HB.out) hb); clear HB; have HB := n0_; clear n0_; (try clear hb); (try clear hb2); (try clear hk); (try clear hi)))
   repeat (go_quiet (first | (go_at_call 70; (with_reducible refine (strings_IndexByte.calls a0 a1 t123 _ A3.out).mono ?_); rintro e w5 ⟨rfl, hb⟩; have n0_ := mkA (below_step (below_y HB.out) hb); clear HB; have HB := n0_; clear n0_; (try clear hb); (try clear hb2); (try clear hk); (try clear hi))); try go_wp2_with (first | (go_at_call 70; (with_reducible refine (strings_IndexByte.calls a0 a1 t123 _ A3.out).mono ?_); rintro e w5 ⟨rfl, hb⟩; have n0_ := mkA (below_step (below_y HB.out) hb); clear HB; have HB := n0_; clear n0_; (try clear hb); (try clear hb2); (try clear hk); (try clear hi))))
   go_ret3
   exact ⟨by first | rfl | (simp [errW_none, errW_some] <;> rfl) | (simp [*, errW_none, errW_some] <;> rfl), below_y HB.out⟩
 ·rw [if_neg c4] at H
  have c4b0 : decide (t123 < 0) = false := decide_eq_false c4
  clear c4
  by_cases c6 : 0 ≤ t123
  ·rw [if_pos c6] at H
   have c6b0 := eq_true c6
   have c6b1 : decide (0 ≤ t123) = true := decide_eq_true c6
   clear c6
   by_cases c7 : t123 ≤ (a0.size : Int)
   ·rw [if_pos c7] at H
    have c7b0 := eq_true c7
    have c7b1 : decide (t123 ≤ (a0.size : Int)) = true := decide_eq_true c7
    clear c7
    obtain ⟨ji8, hji8⟩ : ∃ j_ : Int, (wrap64 (t123 + 1)) = j_ := ⟨_, rfl⟩
    replace H : (if 0 ≤ (ji8) then (if (ji8) ≤ (a0.size : Int) then (some (a0.extract 0 (t123 : Int).toNat, a0.extract ((ji8) : Int).toNat a0.size, true)) else (none)) else (none)) = some (r1, r2, r3) := by first | (rw [hji8] at H; exact H) | (simp only [hji8] at H ⊢; exact H)
    (try rw [hji8] at A3)
    have hji8w : (IntKind.i64.wrap (t123 + 1)) = ji8 := (i64_w _).trans hji8
    by_cases c9 : 0 ≤ (ji8)
    ·rw [if_pos c9] at H
     have c9b0 := eq_true c9
     have c9b1 : decide (0 ≤ (ji8)) = true := decide_eq_true c9
     clear c9
     by_cases c10 : (ji8) ≤ (a0.size : Int)
     ·rw [if_pos c10] at H
      have c10b0 := eq_true c10
      have c10b1 : decide ((ji8) ≤ (a0.size : Int)) = true := decide_eq_true c10
      clear c10
      simp only [Option.some.injEq, Prod.mk.injEq] at H
      obtain ⟨rfl, rfl, rfl⟩ := H
      as_aux_lemma =>
       go_enter Tryd.func50, Tryd.ntmps50
       go_wp2_with (first | (go_at_call 70; (with_reducible refine (strings_IndexByte.calls a0 a1 t123 _ A3.out).mono ?_); rintro e w11 ⟨rfl, hb⟩; have n0_ := mkA (below_step (below_y HB.out) hb); clear HB; have HB := n0_; clear n0_; (try clear hb); (try clear hb2); (try clear hk); (try clear hi)))
       repeat (go_quiet (first | (go_at_call 70; (with_reducible refine (strings_IndexByte.calls a0 a1 t123 _ A3.out).mono ?_); rintro e w11 ⟨rfl, hb⟩; have n0_ := mkA (below_step (below_y HB.out) hb); clear HB; have HB := n0_; clear n0_; (try clear hb); (try clear hb2); (try clear hk); (try clear hi))); try go_wp2_with (first | (go_at_call 70; (with_reducible refine (strings_IndexByte.calls a0 a1 t123 _ A3.out).mono ?_); rintro e w11 ⟨rfl, hb⟩; have n0_ := mkA (below_step (below_y HB.out) hb); clear HB; have HB := n0_; clear n0_; (try clear hb); (try clear hb2); (try clear hk); (try clear hi))))
       go_ret3
       exact ⟨by first | rfl | (simp [errW_none, errW_some] <;> rfl) | (simp only [← hji8]; first | rfl | (simp [errW_none, errW_some] <;> rfl)) | (simp [*, errW_none, errW_some] <;> rfl), below_y HB.out⟩
     ·rw [if_neg c10] at H
      exact absurd H (by simp)
    ·rw [if_neg c9] at H
     exact absurd H (by simp)
   ·rw [if_neg c7] at H
    exact absurd H (by simp)
  ·rw [if_neg c6] at H
   exact absurd H (by simp)

/-! ### text_Split: function 36 -/
def text_Split.l0 : Nat → ByteArray → Int → List ByteArray → Option (List ByteArray)
 | 0, _, _, _ => none
 | k + 1, x0, x1, x5 => (text_Cut.f x0 x1).bind fun bt124 => (if x5.length < 8796093022208 then ((some (x5 ++ [bt124.1] : List ByteArray)).bind fun y127 => (if bt124.2.2 = true then (text_Split.l0 k bt124.2.1 x1 y127) else (some y127))) else (none))
def text_Split.f (k : Nat) (a0 : ByteArray) (a1 : Int) : Option (List ByteArray) := text_Split.l0 k a0 a1 ([] : List ByteArray)
theorem text_Split.mono_l : ∀ k, (∀ y0 y1 y2, LeO (text_Split.l0 k y0 y1 y2) (text_Split.l0 (k + 1) y0 y1 y2))
 | 0 => fun _ _ _ r h => by simp [text_Split.l0] at h
 | k + 1 => by
  have ih0 := text_Split.mono_l k
  ·intro y0 y1 y2
   unfold text_Split.l0
   repeat' first
   | (with_reducible exact ih0 _ _ _)
   | (with_reducible exact LeO.refl _)
   | (with_reducible exact LeO.none _)
   | (with_reducible refine LeO.ite ?_ ?_)
   | (with_reducible refine LeO.bind ?_ (fun _ => ?_))
   | exact ih0 _ _ _
   | exact LeO.none _
   | refine LeO.ite ?_ ?_
   | refine LeO.bind ?_ (fun _ => ?_)
theorem text_Split.mono : ∀ a0 a1 k, LeO (text_Split.f k a0 a1) (text_Split.f (k + 1) a0 a1) := by
 intro a0 a1 k
 have ih0 := text_Split.mono_l k
 unfold text_Split.f
 repeat' first
   | (with_reducible exact ih0 _ _ _)
   | (with_reducible exact LeO.refl _)
   | (with_reducible exact LeO.none _)
   | (with_reducible refine LeO.ite ?_ ?_)
   | (with_reducible refine LeO.bind ?_ (fun _ => ?_))
   | exact ih0 _ _ _
   | exact LeO.none _
   | refine LeO.ite ?_ ?_
   | refine LeO.bind ?_ (fun _ => ?_)
set_option maxHeartbeats 8000000 in
set_option maxRecDepth 100000 in
theorem text_Split.calls (k : Nat) (a0 : ByteArray) (a1 : Int) (r : List ByteArray) (w : World) (h : text_Split.f k a0 a1 = some r) :
  Calls Tryd.prog 36 #[.string a0, .int .u8 a1] w fun e w' => ∃ v0_ : Value, e = .returned (v0_) ∧ Kd.R Kd.string 9 w' w.heap.size (fun _ => True) v0_ r ∧ Below w.heap.size w w' := by
 have HB := mkA (Below.refl w.heap.size w)
 have H : (text_Split.l0 k a0 a1 ([] : List ByteArray)) = some r := h
 clear h
 have H' := mkA H
 clear H
 go_enter Tryd.func36, Tryd.ntmps36
 go_wp2
 go_loopg [0, 5] k (fun kq v0 v5 w' => ∃ (x0_1 : ByteArray) (x5_1 : List ByteArray), v0 = .string x0_1 ∧ Aside0 (text_Split.l0 kq x0_1 a1 x5_1 = some r) ∧ Aside0 (kq ≤ k) ∧ Aside0 (Kd.R Kd.string 9 w' w.heap.size (fun _ => True) v5 x5_1) ∧ Aside0 (Below w.heap.size w w'))
 case atStart => exact ⟨(a0), (([] : List ByteArray)), (by first | rfl | (simp; done) | (simp [*]; done)), H', ⟨Nat.le_refl _⟩, ⟨by first | exact Kd.R_nil _ _ _ _ _ | exact Kd.N_nil _ _ _ _ _ | exact Kd.V_nil _ _ _ _ _ | exact Kd.Q_nil _ _ _ _ _ | exact Kd.S_nil _ _ _ _ _⟩, ⟨below_y HB.out⟩⟩
 case round =>
  clear H'
  try clear p2
  obtain ⟨x0_1, x5_1, rfl, HA, HK1, HO_5, HB⟩ := hrel
  cases gk with
  | zero => exact absurd HA.out (by simp [text_Split.l0])
  | succ k1 =>
   have H := HA.out
   clear HA
   simp only [text_Split.l0] at H
   replace H := Option.bind_eq_some_iff.mp H
   obtain ⟨⟨t124, t125, t126⟩, A30, H⟩ := H
   replace H : (if x5_1.length < 8796093022208 then ((some (x5_1 ++ [t124] : List ByteArray)).bind fun y127 => (if t126 = true then (text_Split.l0 k1 t125 a1 y127) else (some y127))) else (none)) = some r := H
   have A3 := mkA A30
   clear A30
   by_cases c4 : x5_1.length < 8796093022208
   ·rw [if_pos c4] at H
    have LMc4 := mkA c4
    clear c4
    obtain ⟨y127, hy127⟩ : ∃ y_ : List ByteArray, y_ = (x5_1 ++ [t124]) := ⟨_, rfl⟩
    replace H : (if t126 = true then (text_Split.l0 k1 t125 a1 y127) else (some y127)) = some r := by first | (rw [hy127]; with_reducible exact H) | (have H2_ := (Option.bind_some _ _).symm.trans H; rw [hy127]; with_reducible exact H2_) | (have H2_ := (Option.bind_some _ _).symm.trans H; with_reducible exact H2_) | with_reducible exact H | (rw [hy127]; exact H) | exact H
    have Ny127 := mkA hy127
    clear hy127
    by_cases c5 : t126 = true
    ·subst c5
     have H1 : (text_Split.l0 k1 t125 a1 y127) = some r := by rw [if_pos rfl] at H; exact H
     clear H
     have H := H1
     clear H1
     have H' := mkA H
     clear H
     go_wp2_with (first | ((with_reducible refine gate_callee (f := 50) rfl ?_); refine goesL_ (some 12) rfl rfl Tryd.func50 (by kernel_rfl) rfl #[.string x0_1, .int .u8 a1] rfl ca ?_; (with_reducible refine (text_Cut.calls x0_1 a1 t124 t125 true _ A3.out).mono ?_); rintro e w6 ⟨rfl, hb⟩; refine ⟨_, rfl, ?_⟩; have n0_ := mkA (Kd.R_below (Kd.R_y HO_5.out) hb); have n1_ := mkA (below_step (below_y HB.out) hb); clear HO_5; clear HB; have HO_5 := n0_; have HB := n1_; clear n0_ n1_; (try clear hb); (try clear hb2); (try clear hk); (try clear hi)) | ((with_reducible refine gate_builtin (b := .append) (xs := #[.tmp 16, .tmp 18]) rfl ?_); at_builtin; refine Kd.R_append Kd.string (w0 := w) w.heap.size rfl (.tmp 16) (.tmp 18) 35 9 (.string ⟨#[]⟩) 16 rfl Tryd.underlying35 info9 rfl (by decide) (by omega) u5 x5_1 t124 [.string t124] (fun _ => True) (fun _ => False) rfl rfl ?aP (fun _ hk => hk.elim) ?aF ?aO ?aB ?aS ?aL ?_; (case aP => exact rfl); (case aB => exact (below_y HB.out)); (case aF => exact (fun _ _ => trivial)); (case aO => exact (Kd.R_y HO_5.out)); (case aS => exact (below_size (below_y HB.out))); (case aL => have := LMc4.out; omega); intro v128 w7 ho hb hg hat; rw [← Ny127.out] at ho; have n0_ := mkA (hb); have n1_ := mkA (ho); clear HB; clear HO_5; have HB := n0_; have HO129 := n1_; clear n0_ n1_; clear ho hb hg hat))
     go_roundg k1
     case measure => have := HK1.out; omega
     case rel => exact ⟨(t125), (y127), (by first | rfl | (simp; done) | (simp [*]; done)), H', ⟨by have := HK1.out; omega⟩, ⟨by (with_reducible repeat (first | apply Kd.R_alloc | apply Kd.R_drewN | apply Kd.R_drew)); exact HO129.out⟩, ⟨below_y HB.out⟩⟩
    ·replace c5 := Bool.eq_false_iff.mpr c5
     subst c5
     have H1 : (some y127) = some r := by rw [if_neg (show ¬ (false = true) by decide)] at H; exact H
     clear H
     have H := H1
     clear H1
     obtain rfl := Option.some.inj H
     go_wp2_with (first | ((with_reducible refine gate_callee (f := 50) rfl ?_); refine goesL_ (some 12) rfl rfl Tryd.func50 (by kernel_rfl) rfl #[.string x0_1, .int .u8 a1] rfl ca ?_; (with_reducible refine (text_Cut.calls x0_1 a1 t124 t125 false _ A3.out).mono ?_); rintro e w8 ⟨rfl, hb⟩; refine ⟨_, rfl, ?_⟩; have n0_ := mkA (Kd.R_below (Kd.R_y HO_5.out) hb); have n1_ := mkA (below_step (below_y HB.out) hb); clear HO_5; clear HB; have HO_5 := n0_; have HB := n1_; clear n0_ n1_; (try clear hb); (try clear hb2); (try clear hk); (try clear hi)) | ((with_reducible refine gate_builtin (b := .append) (xs := #[.tmp 16, .tmp 18]) rfl ?_); at_builtin; refine Kd.R_append Kd.string (w0 := w) w.heap.size rfl (.tmp 16) (.tmp 18) 35 9 (.string ⟨#[]⟩) 16 rfl Tryd.underlying35 info9 rfl (by decide) (by omega) u5 x5_1 t124 [.string t124] (fun _ => True) (fun _ => False) rfl rfl ?aP (fun _ hk => hk.elim) ?aF ?aO ?aB ?aS ?aL ?_; (case aP => exact rfl); (case aB => exact (below_y HB.out)); (case aF => exact (fun _ _ => trivial)); (case aO => exact (Kd.R_y HO_5.out)); (case aS => exact (below_size (below_y HB.out))); (case aL => have := LMc4.out; omega); intro v128 w9 ho hb hg hat; rw [← Ny127.out] at ho; have n0_ := mkA (hb); have n1_ := mkA (ho); clear HB; clear HO_5; have HB := n0_; have HO129 := n1_; clear n0_ n1_; clear ho hb hg hat))
     go_ret
     exact ⟨_, by first | rfl | (simp [errW_none, errW_some] <;> rfl) | (simp [*, errW_none, errW_some] <;> rfl), by (with_reducible repeat (first | apply Kd.R_alloc | apply Kd.R_drewN | apply Kd.R_drew)); exact HO129.out, below_y HB.out⟩
   ·rw [if_neg c4] at H
    exact absurd H (by simp)

/-! ### stamp_named: function 37 -/
mutual
def stamp_named.j0 : Nat → ByteArray → Bool → Option (Int)
 | 0, _, _ => none
 | k + 1, x4, x5 => if x5 = true then (some 0) else (if x4.toList = ([101, 100, 116] : List UInt8) then (some 4) else (if x4.toList = ([101, 115, 116] : List UInt8) then (stamp_named.j1 k x4 (x4.toList == ([101, 115, 116] : List UInt8))) else (stamp_named.j1 k x4 (x4.toList == ([99, 100, 116] : List UInt8)))))
def stamp_named.j1 : Nat → ByteArray → Bool → Option (Int)
 | 0, _, _ => none
 | k + 1, x4, x12 => if x12 = true then (some 5) else (if x4.toList = ([99, 115, 116] : List UInt8) then (stamp_named.j2 k x4 (x4.toList == ([99, 115, 116] : List UInt8))) else (stamp_named.j2 k x4 (x4.toList == ([109, 100, 116] : List UInt8))))
def stamp_named.j2 : Nat → ByteArray → Bool → Option (Int)
 | 0, _, _ => none
 | k + 1, x4, x15 => if x15 = true then (some 6) else (if x4.toList = ([109, 115, 116] : List UInt8) then (stamp_named.j3 k x4 (x4.toList == ([109, 115, 116] : List UInt8))) else (stamp_named.j3 k x4 (x4.toList == ([112, 100, 116] : List UInt8))))
def stamp_named.j3 : Nat → ByteArray → Bool → Option (Int)
 | 0, _, _ => none
 | k + 1, x4, x18 => if x18 = true then (some 7) else (if x4.toList = ([112, 115, 116] : List UInt8) then (some 8) else (some (-1)))
end
def stamp_named.f (k : Nat) (a0 : ByteArray) : Option (Int) := (text_Lower.f a0).bind fun t144 => (if t144.toList = ([103, 109, 116] : List UInt8) then (stamp_named.j0 k t144 (t144.toList == ([103, 109, 116] : List UInt8))) else (if t144.toList = ([117, 116] : List UInt8) then (stamp_named.j0 k t144 (t144.toList == ([117, 116] : List UInt8))) else (if t144.toList = ([117, 116, 99] : List UInt8) then (stamp_named.j0 k t144 (t144.toList == ([117, 116, 99] : List UInt8))) else (stamp_named.j0 k t144 (t144.toList == ([122] : List UInt8))))))
theorem stamp_named.mono_l : ∀ k, (∀ y0 y1, LeO (stamp_named.j0 k y0 y1) (stamp_named.j0 (k + 1) y0 y1)) ∧ (∀ y0 y1, LeO (stamp_named.j1 k y0 y1) (stamp_named.j1 (k + 1) y0 y1)) ∧ (∀ y0 y1, LeO (stamp_named.j2 k y0 y1) (stamp_named.j2 (k + 1) y0 y1)) ∧ (∀ y0 y1, LeO (stamp_named.j3 k y0 y1) (stamp_named.j3 (k + 1) y0 y1))
 | 0 => ⟨fun _ _ r h => by simp [stamp_named.j0] at h, fun _ _ r h => by simp [stamp_named.j1] at h, fun _ _ r h => by simp [stamp_named.j2] at h, fun _ _ r h => by simp [stamp_named.j3] at h⟩
 | k + 1 => by
  obtain ⟨ih0, ih1, ih2, ih3⟩ := stamp_named.mono_l k
  refine ⟨?_, ?_, ?_, ?_⟩
  ·intro y0 y1
   unfold stamp_named.j0
   repeat' first
   | (with_reducible exact ih0 _ _)
   | (with_reducible exact ih1 _ _)
   | (with_reducible exact ih2 _ _)
   | (with_reducible exact ih3 _ _)
   | (with_reducible exact LeO.refl _)
   | (with_reducible exact LeO.none _)
   | (with_reducible refine LeO.ite ?_ ?_)
   | (with_reducible refine LeO.bind ?_ (fun _ => ?_))
   | exact ih0 _ _
   | exact ih1 _ _
   | exact ih2 _ _
   | exact ih3 _ _
   | exact LeO.none _
   | refine LeO.ite ?_ ?_
   | refine LeO.bind ?_ (fun _ => ?_)
  ·intro y0 y1
   unfold stamp_named.j1
   repeat' first
   | (with_reducible exact ih0 _ _)
   | (with_reducible exact ih1 _ _)
   | (with_reducible exact ih2 _ _)
   | (with_reducible exact ih3 _ _)
   | (with_reducible exact LeO.refl _)
   | (with_reducible exact LeO.none _)
   | (with_reducible refine LeO.ite ?_ ?_)
   | (with_reducible refine LeO.bind ?_ (fun _ => ?_))
   | exact ih0 _ _
   | exact ih1 _ _
   | exact ih2 _ _
   | exact ih3 _ _
   | exact LeO.none _
   | refine LeO.ite ?_ ?_
   | refine LeO.bind ?_ (fun _ => ?_)
  ·intro y0 y1
   unfold stamp_named.j2
   repeat' first
   | (with_reducible exact ih0 _ _)
   | (with_reducible exact ih1 _ _)
   | (with_reducible exact ih2 _ _)
   | (with_reducible exact ih3 _ _)
   | (with_reducible exact LeO.refl _)
   | (with_reducible exact LeO.none _)
   | (with_reducible refine LeO.ite ?_ ?_)
   | (with_reducible refine LeO.bind ?_ (fun _ => ?_))
   | exact ih0 _ _
   | exact ih1 _ _
   | exact ih2 _ _
   | exact ih3 _ _
   | exact LeO.none _
   | refine LeO.ite ?_ ?_
   | refine LeO.bind ?_ (fun _ => ?_)
  ·intro y0 y1
   unfold stamp_named.j3
   repeat' first
   | (with_reducible exact ih0 _ _)
   | (with_reducible exact ih1 _ _)
   | (with_reducible exact ih2 _ _)
   | (with_reducible exact ih3 _ _)
   | (with_reducible exact LeO.refl _)
   | (with_reducible exact LeO.none _)
   | (with_reducible refine LeO.ite ?_ ?_)
   | (with_reducible refine LeO.bind ?_ (fun _ => ?_))
   | exact ih0 _ _
   | exact ih1 _ _
   | exact ih2 _ _
   | exact ih3 _ _
   | exact LeO.none _
   | refine LeO.ite ?_ ?_
   | refine LeO.bind ?_ (fun _ => ?_)
theorem stamp_named.mono : ∀ a0 k, LeO (stamp_named.f k a0) (stamp_named.f (k + 1) a0) := by
 intro a0 k
 obtain ⟨ih0, ih1, ih2, ih3⟩ := stamp_named.mono_l k
 unfold stamp_named.f
 repeat' first
   | (with_reducible exact ih0 _ _)
   | (with_reducible exact ih1 _ _)
   | (with_reducible exact ih2 _ _)
   | (with_reducible exact ih3 _ _)
   | (with_reducible exact LeO.refl _)
   | (with_reducible exact LeO.none _)
   | (with_reducible refine LeO.ite ?_ ?_)
   | (with_reducible refine LeO.bind ?_ (fun _ => ?_))
   | exact ih0 _ _
   | exact ih1 _ _
   | exact ih2 _ _
   | exact ih3 _ _
   | exact LeO.none _
   | refine LeO.ite ?_ ?_
   | refine LeO.bind ?_ (fun _ => ?_)
set_option maxHeartbeats 8000000 in
set_option maxRecDepth 100000 in
theorem stamp_named.calls (k : Nat) (a0 : ByteArray) (r : Int) (w : World) (h : stamp_named.f k a0 = some r) :
  Calls Tryd.prog 37 #[.string a0] w fun e w' => e = .returned (.int .i64 r) ∧ Below w.heap.size w w' := by
 have HB := mkA (Below.refl w.heap.size w)
 have H : ((text_Lower.f a0).bind fun t144 => (if t144.toList = ([103, 109, 116] : List UInt8) then (stamp_named.j0 k t144 (t144.toList == ([103, 109, 116] : List UInt8))) else (if t144.toList = ([117, 116] : List UInt8) then (stamp_named.j0 k t144 (t144.toList == ([117, 116] : List UInt8))) else (if t144.toList = ([117, 116, 99] : List UInt8) then (stamp_named.j0 k t144 (t144.toList == ([117, 116, 99] : List UInt8))) else (stamp_named.j0 k t144 (t144.toList == ([122] : List UInt8))))))) = some r := h
 clear h
 replace H := Option.bind_eq_some_iff.mp H
 obtain ⟨t144, A20, H⟩ := H
 replace H : (if t144.toList = ([103, 109, 116] : List UInt8) then (stamp_named.j0 k t144 (t144.toList == ([103, 109, 116] : List UInt8))) else (if t144.toList = ([117, 116] : List UInt8) then (stamp_named.j0 k t144 (t144.toList == ([117, 116] : List UInt8))) else (if t144.toList = ([117, 116, 99] : List UInt8) then (stamp_named.j0 k t144 (t144.toList == ([117, 116, 99] : List UInt8))) else (stamp_named.j0 k t144 (t144.toList == ([122] : List UInt8)))))) = some r := H
 have A2 := mkA A20
 clear A20
 have HC3 := mkA H
 clear H
 go_enter Tryd.func37, Tryd.ntmps37
 go_upto_if 5 with (first | ((with_reducible refine gate_callee (f := 34) rfl ?_); refine goesL_ (some 4) rfl rfl Tryd.func34 (by kernel_rfl) rfl #[.string a0] rfl ca ?_; (with_reducible refine (text_Lower.calls a0 t144 _ A2.out).mono ?_); rintro e w4 ⟨rfl, hb⟩; refine ⟨_, rfl, ?_⟩; have n0_ := mkA (below_step (below_y HB.out) hb); clear HB; have HB := n0_; clear n0_; (try clear hb); (try clear hb2); (try clear hk); (try clear hi)))
 (try simp only [Act.put, sA, s0, sS])
 go_cut [5] (fun v5 wc => ∃ (kq : Nat) (x5_2 : Bool), v5 = .bool x5_2 ∧ Aside0 (stamp_named.j0 kq t144 x5_2 = some r) ∧ Aside0 (kq ≤ k) ∧ Aside0 (Below w.heap.size w wc))
 case first =>
  have H := HC3.out
  clear HC3
  by_cases c5 : t144.toList = ([103, 109, 116] : List UInt8)
  ·rw [if_pos c5] at H
   have c5b0 : (t144.toList == ([103, 109, 116] : List UInt8)) = true := beq_iff_eq.mpr c5
   have c5b1 : (t144.toList != ([103, 109, 116] : List UInt8)) = false := bne_eq_false_iff_eq.mpr c5
   clear c5
   (first | rw [c5b0] | (simp only [i64_w, i32_w]; rw [c5b0]) | skip)
   as_aux_lemma =>
    have H' := mkA H
    clear H
    go_wp2
    go_meet
    case rel => exact ⟨_, ((t144.toList == ([103, 109, 116] : List UInt8))), (by first | rfl | (simp; done) | (simp [*]; done)), H', ⟨by first | omega | exact Nat.le_refl _⟩, ⟨below_y HB.out⟩⟩
  ·rw [if_neg c5] at H
   have c5b0 : (t144.toList == ([103, 109, 116] : List UInt8)) = false := beq_eq_false_iff_ne.mpr c5
   have c5b1 : (t144.toList != ([103, 109, 116] : List UInt8)) = true := bne_iff_ne.mpr c5
   (first | rw [c5b0] | (simp only [i64_w, i32_w]; rw [c5b0]) | skip)
   by_cases c6 : t144.toList = ([117, 116] : List UInt8)
   ·rw [if_pos c6] at H
    have c6b0 : (t144.toList == ([117, 116] : List UInt8)) = true := beq_iff_eq.mpr c6
    have c6b1 : (t144.toList != ([117, 116] : List UInt8)) = false := bne_eq_false_iff_eq.mpr c6
    clear c6
    as_aux_lemma =>
     have H' := mkA H
     clear H
     go_wp2
     go_meet
     case rel => exact ⟨_, ((t144.toList == ([117, 116] : List UInt8))), (by first | rfl | (simp; done) | (simp [*]; done)), H', ⟨by first | omega | exact Nat.le_refl _⟩, ⟨below_y HB.out⟩⟩
   ·rw [if_neg c6] at H
    have c6b0 : (t144.toList == ([117, 116] : List UInt8)) = false := beq_eq_false_iff_ne.mpr c6
    have c6b1 : (t144.toList != ([117, 116] : List UInt8)) = true := bne_iff_ne.mpr c6
    by_cases c7 : t144.toList = ([117, 116, 99] : List UInt8)
    ·rw [if_pos c7] at H
     have c7b0 : (t144.toList == ([117, 116, 99] : List UInt8)) = true := beq_iff_eq.mpr c7
     have c7b1 : (t144.toList != ([117, 116, 99] : List UInt8)) = false := bne_eq_false_iff_eq.mpr c7
     clear c7
     as_aux_lemma =>
      have H' := mkA H
      clear H
      go_wp2
      go_meet
      case rel => exact ⟨_, ((t144.toList == ([117, 116, 99] : List UInt8))), (by first | rfl | (simp; done) | (simp [*]; done)), H', ⟨by first | omega | exact Nat.le_refl _⟩, ⟨below_y HB.out⟩⟩
    ·rw [if_neg c7] at H
     have c7b0 : (t144.toList == ([117, 116, 99] : List UInt8)) = false := beq_eq_false_iff_ne.mpr c7
     have c7b1 : (t144.toList != ([117, 116, 99] : List UInt8)) = true := bne_iff_ne.mpr c7
     as_aux_lemma =>
      have H' := mkA H
      clear H
      go_wp2
      go_meet
      case rel => exact ⟨_, ((t144.toList == ([122] : List UInt8))), (by first | rfl | (simp; done) | (simp [*]; done)), H', ⟨by first | omega | exact Nat.le_refl _⟩, ⟨below_y HB.out⟩⟩
 case rest =>
  clear HC3
  try clear p2
  try clear c3
  try clear c5
  try clear c5b0
  try clear c5b1
  try clear c6
  try clear c6b0
  try clear c6b1
  try clear c7
  try clear c7b0
  try clear c7b1
  obtain ⟨kq, x5_2, rfl, HA, HJ2, HB⟩ := hcut
  cases kq with
  | zero => exact absurd HA.out (by simp [stamp_named.j0])
  | succ kj2 =>
   have H := HA.out
   clear HA
   simp only [stamp_named.j0] at H
   by_cases c8 : x5_2 = true
   ·subst c8
    have H1 : (some 0) = some r := by rw [if_pos rfl] at H; exact H
    clear H
    have H := H1
    clear H1
    as_aux_lemma =>
     obtain rfl := Option.some.inj H
     go_wp2
     go_ret
     exact ⟨by first | rfl | (simp [errW_none, errW_some] <;> rfl) | (simp [*, errW_none, errW_some] <;> rfl), below_y HB.out⟩
   ·replace c8 := Bool.eq_false_iff.mpr c8
    subst c8
    have H1 : (if t144.toList = ([101, 100, 116] : List UInt8) then (some 4) else (if t144.toList = ([101, 115, 116] : List UInt8) then (stamp_named.j1 kj2 t144 (t144.toList == ([101, 115, 116] : List UInt8))) else (stamp_named.j1 kj2 t144 (t144.toList == ([99, 100, 116] : List UInt8))))) = some r := by rw [if_neg (show ¬ (false = true) by decide)] at H; exact H
    clear H
    have H := H1
    clear H1
    by_cases c9 : t144.toList = ([101, 100, 116] : List UInt8)
    ·rw [if_pos c9] at H
     have c9b0 : (t144.toList == ([101, 100, 116] : List UInt8)) = true := beq_iff_eq.mpr c9
     have c9b1 : (t144.toList != ([101, 100, 116] : List UInt8)) = false := bne_eq_false_iff_eq.mpr c9
     clear c9
     as_aux_lemma =>
      obtain rfl := Option.some.inj H
      go_wp2
      go_ret
      exact ⟨by first | rfl | (simp [errW_none, errW_some] <;> rfl) | (simp [*, errW_none, errW_some] <;> rfl), below_y HB.out⟩
    ·rw [if_neg c9] at H
     have c9b0 : (t144.toList == ([101, 100, 116] : List UInt8)) = false := beq_eq_false_iff_ne.mpr c9
     have c9b1 : (t144.toList != ([101, 100, 116] : List UInt8)) = true := bne_iff_ne.mpr c9
     have HC10 := mkA H
     clear H
     go_upto_if 12 with (fail)
     go_cut [12] (fun v12 wc => ∃ (kq : Nat) (x12_9 : Bool), v12 = .bool x12_9 ∧ Aside0 (stamp_named.j1 kq t144 x12_9 = some r) ∧ Aside0 (kq ≤ kj2) ∧ Aside0 (Below w.heap.size w wc))
     case first =>
      have H := HC10.out
      clear HC10
      by_cases c11 : t144.toList = ([101, 115, 116] : List UInt8)
      ·rw [if_pos c11] at H
       have c11b0 : (t144.toList == ([101, 115, 116] : List UInt8)) = true := beq_iff_eq.mpr c11
       have c11b1 : (t144.toList != ([101, 115, 116] : List UInt8)) = false := bne_eq_false_iff_eq.mpr c11
       clear c11
       (first | rw [c11b0] | (simp only [i64_w, i32_w]; rw [c11b0]) | skip)
       as_aux_lemma =>
        have H' := mkA H
        clear H
        go_wp2
        go_meet
        case rel => exact ⟨_, ((t144.toList == ([101, 115, 116] : List UInt8))), (by first | rfl | (simp; done) | (simp [*]; done)), H', ⟨by have := HJ2.out; first | omega | exact Nat.le_refl _⟩, ⟨below_y HB.out⟩⟩
      ·rw [if_neg c11] at H
       have c11b0 : (t144.toList == ([101, 115, 116] : List UInt8)) = false := beq_eq_false_iff_ne.mpr c11
       have c11b1 : (t144.toList != ([101, 115, 116] : List UInt8)) = true := bne_iff_ne.mpr c11
       (first | rw [c11b0] | (simp only [i64_w, i32_w]; rw [c11b0]) | skip)
       as_aux_lemma =>
        have H' := mkA H
        clear H
        go_wp2
        go_meet
        case rel => exact ⟨_, ((t144.toList == ([99, 100, 116] : List UInt8))), (by first | rfl | (simp; done) | (simp [*]; done)), H', ⟨by have := HJ2.out; first | omega | exact Nat.le_refl _⟩, ⟨below_y HB.out⟩⟩
     case rest =>
      clear HC10
      try clear c1
      try clear p2
      try clear c3
      try clear c5
      try clear c5b0
      try clear c5b1
      try clear c6
      try clear c6b0
      try clear c6b1
      try clear c7
      try clear c7b0
      try clear c7b1
      try clear c8
      try clear c9
      try clear c9b0
      try clear c9b1
      try clear c11
      try clear c11b0
      try clear c11b1
      try clear p2
      obtain ⟨kq, x12_9, rfl, HA, HJ9, HB⟩ := hcut
      cases kq with
      | zero => exact absurd HA.out (by simp [stamp_named.j1])
      | succ kj9 =>
       have H := HA.out
       clear HA
       simp only [stamp_named.j1] at H
       by_cases c12 : x12_9 = true
       ·subst c12
        have H1 : (some 5) = some r := by rw [if_pos rfl] at H; exact H
        clear H
        have H := H1
        clear H1
        as_aux_lemma =>
         obtain rfl := Option.some.inj H
         go_wp2
         go_ret
         exact ⟨by first | rfl | (simp [errW_none, errW_some] <;> rfl) | (simp [*, errW_none, errW_some] <;> rfl), below_y HB.out⟩
       ·replace c12 := Bool.eq_false_iff.mpr c12
        subst c12
        have H1 : (if t144.toList = ([99, 115, 116] : List UInt8) then (stamp_named.j2 kj9 t144 (t144.toList == ([99, 115, 116] : List UInt8))) else (stamp_named.j2 kj9 t144 (t144.toList == ([109, 100, 116] : List UInt8)))) = some r := by rw [if_neg (show ¬ (false = true) by decide)] at H; exact H
        clear H
        have H := H1
        clear H1
        have HC13 := mkA H
        clear H
        go_upto_if 15 with (fail)
        go_cut [15] (fun v15 wc => ∃ (kq : Nat) (x15_12 : Bool), v15 = .bool x15_12 ∧ Aside0 (stamp_named.j2 kq t144 x15_12 = some r) ∧ Aside0 (kq ≤ kj9) ∧ Aside0 (Below w.heap.size w wc))
        case first =>
         have H := HC13.out
         clear HC13
         by_cases c14 : t144.toList = ([99, 115, 116] : List UInt8)
         ·rw [if_pos c14] at H
          have c14b0 : (t144.toList == ([99, 115, 116] : List UInt8)) = true := beq_iff_eq.mpr c14
          have c14b1 : (t144.toList != ([99, 115, 116] : List UInt8)) = false := bne_eq_false_iff_eq.mpr c14
          clear c14
          (first | rw [c14b0] | (simp only [i64_w, i32_w]; rw [c14b0]) | skip)
          as_aux_lemma =>
           have H' := mkA H
           clear H
           go_wp2
           go_meet
           case rel => exact ⟨_, ((t144.toList == ([99, 115, 116] : List UInt8))), (by first | rfl | (simp; done) | (simp [*]; done)), H', ⟨by have := HJ2.out; have := HJ9.out; first | omega | exact Nat.le_refl _⟩, ⟨below_y HB.out⟩⟩
         ·rw [if_neg c14] at H
          have c14b0 : (t144.toList == ([99, 115, 116] : List UInt8)) = false := beq_eq_false_iff_ne.mpr c14
          have c14b1 : (t144.toList != ([99, 115, 116] : List UInt8)) = true := bne_iff_ne.mpr c14
          (first | rw [c14b0] | (simp only [i64_w, i32_w]; rw [c14b0]) | skip)
          as_aux_lemma =>
           have H' := mkA H
           clear H
           go_wp2
           go_meet
           case rel => exact ⟨_, ((t144.toList == ([109, 100, 116] : List UInt8))), (by first | rfl | (simp; done) | (simp [*]; done)), H', ⟨by have := HJ2.out; have := HJ9.out; first | omega | exact Nat.le_refl _⟩, ⟨below_y HB.out⟩⟩
        case rest =>
         clear HC13
         try clear c1
         try clear p2
         try clear c3
         try clear c5
         try clear c5b0
         try clear c5b1
         try clear c6
         try clear c6b0
         try clear c6b1
         try clear c7
         try clear c7b0
         try clear c7b1
         try clear c8
         try clear c9
         try clear c9b0
         try clear c9b1
         try clear c11
         try clear c11b0
         try clear c11b1
         try clear c12
         try clear c14
         try clear c14b0
         try clear c14b1
         try clear p2
         obtain ⟨kq, x15_12, rfl, HA, HJ12, HB⟩ := hcut
         cases kq with
         | zero => exact absurd HA.out (by simp [stamp_named.j2])
         | succ kj12 =>
          have H := HA.out
          clear HA
          simp only [stamp_named.j2] at H
          by_cases c15 : x15_12 = true
          ·subst c15
           have H1 : (some 6) = some r := by rw [if_pos rfl] at H; exact H
           clear H
           have H := H1
           clear H1
           as_aux_lemma =>
            obtain rfl := Option.some.inj H
            go_wp2
            go_ret
            exact ⟨by first | rfl | (simp [errW_none, errW_some] <;> rfl) | (simp [*, errW_none, errW_some] <;> rfl), below_y HB.out⟩
          ·replace c15 := Bool.eq_false_iff.mpr c15
           subst c15
           have H1 : (if t144.toList = ([109, 115, 116] : List UInt8) then (stamp_named.j3 kj12 t144 (t144.toList == ([109, 115, 116] : List UInt8))) else (stamp_named.j3 kj12 t144 (t144.toList == ([112, 100, 116] : List UInt8)))) = some r := by rw [if_neg (show ¬ (false = true) by decide)] at H; exact H
           clear H
           have H := H1
           clear H1
           have HC16 := mkA H
           clear H
           go_upto_if 18 with (fail)
           go_cut [18] (fun v18 wc => ∃ (kq : Nat) (x18_15 : Bool), v18 = .bool x18_15 ∧ Aside0 (stamp_named.j3 kq t144 x18_15 = some r) ∧ Aside0 (kq ≤ kj12) ∧ Aside0 (Below w.heap.size w wc))
           case first =>
            have H := HC16.out
            clear HC16
            by_cases c17 : t144.toList = ([109, 115, 116] : List UInt8)
            ·rw [if_pos c17] at H
             have c17b0 : (t144.toList == ([109, 115, 116] : List UInt8)) = true := beq_iff_eq.mpr c17
             have c17b1 : (t144.toList != ([109, 115, 116] : List UInt8)) = false := bne_eq_false_iff_eq.mpr c17
             clear c17
             (first | rw [c17b0] | (simp only [i64_w, i32_w]; rw [c17b0]) | skip)
             as_aux_lemma =>
              have H' := mkA H
              clear H
              go_wp2
              go_meet
              case rel => exact ⟨_, ((t144.toList == ([109, 115, 116] : List UInt8))), (by first | rfl | (simp; done) | (simp [*]; done)), H', ⟨by have := HJ2.out; have := HJ9.out; have := HJ12.out; first | omega | exact Nat.le_refl _⟩, ⟨below_y HB.out⟩⟩
            ·rw [if_neg c17] at H
             have c17b0 : (t144.toList == ([109, 115, 116] : List UInt8)) = false := beq_eq_false_iff_ne.mpr c17
             have c17b1 : (t144.toList != ([109, 115, 116] : List UInt8)) = true := bne_iff_ne.mpr c17
             (first | rw [c17b0] | (simp only [i64_w, i32_w]; rw [c17b0]) | skip)
             as_aux_lemma =>
              have H' := mkA H
              clear H
              go_wp2
              go_meet
              case rel => exact ⟨_, ((t144.toList == ([112, 100, 116] : List UInt8))), (by first | rfl | (simp; done) | (simp [*]; done)), H', ⟨by have := HJ2.out; have := HJ9.out; have := HJ12.out; first | omega | exact Nat.le_refl _⟩, ⟨below_y HB.out⟩⟩
           case rest =>
            clear HC16
            try clear c1
            try clear p2
            try clear c3
            try clear c5
            try clear c5b0
            try clear c5b1
            try clear c6
            try clear c6b0
            try clear c6b1
            try clear c7
            try clear c7b0
            try clear c7b1
            try clear c8
            try clear c9
            try clear c9b0
            try clear c9b1
            try clear c11
            try clear c11b0
            try clear c11b1
            try clear c12
            try clear c14
            try clear c14b0
            try clear c14b1
            try clear c15
            try clear c17
            try clear c17b0
            try clear c17b1
            try clear p2
            obtain ⟨kq, x18_15, rfl, HA, HJ15, HB⟩ := hcut
            cases kq with
            | zero => exact absurd HA.out (by simp [stamp_named.j3])
            | succ kj15 =>
             have H := HA.out
             clear HA
             simp only [stamp_named.j3] at H
             by_cases c18 : x18_15 = true
             ·subst c18
              have H1 : (some 7) = some r := by rw [if_pos rfl] at H; exact H
              clear H
              have H := H1
              clear H1
              as_aux_lemma =>
               obtain rfl := Option.some.inj H
               go_wp2
               go_ret
               exact ⟨by first | rfl | (simp [errW_none, errW_some] <;> rfl) | (simp [*, errW_none, errW_some] <;> rfl), below_y HB.out⟩
             ·replace c18 := Bool.eq_false_iff.mpr c18
              subst c18
              have H1 : (if t144.toList = ([112, 115, 116] : List UInt8) then (some 8) else (some (-1))) = some r := by rw [if_neg (show ¬ (false = true) by decide)] at H; exact H
              clear H
              have H := H1
              clear H1
              by_cases c19 : t144.toList = ([112, 115, 116] : List UInt8)
              ·rw [if_pos c19] at H
               have c19b0 : (t144.toList == ([112, 115, 116] : List UInt8)) = true := beq_iff_eq.mpr c19
               have c19b1 : (t144.toList != ([112, 115, 116] : List UInt8)) = false := bne_eq_false_iff_eq.mpr c19
               clear c19
               as_aux_lemma =>
                obtain rfl := Option.some.inj H
                go_wp2
                go_ret
                exact ⟨by first | rfl | (simp [errW_none, errW_some] <;> rfl) | (simp [*, errW_none, errW_some] <;> rfl), below_y HB.out⟩
              ·rw [if_neg c19] at H
               have c19b0 : (t144.toList == ([112, 115, 116] : List UInt8)) = false := beq_eq_false_iff_ne.mpr c19
               have c19b1 : (t144.toList != ([112, 115, 116] : List UInt8)) = true := bne_iff_ne.mpr c19
               as_aux_lemma =>
                obtain rfl := Option.some.inj H
                go_wp2
                go_ret
                exact ⟨by first | rfl | (simp [errW_none, errW_some] <;> rfl) | (simp [*, errW_none, errW_some] <;> rfl), below_y HB.out⟩

/-! ### stamp_zone: function 17 -/
mutual
def stamp_zone.j0 : Nat → ByteArray → Bool → Option (Int × Int)
 | 0, _, _ => none
 | k + 1, x0, x26 => if x26 = true then (some (0, 2)) else (if 1 ≤ 3 then (if 3 ≤ (x0.size : Int) then ((stamp_digits.f k (x0.extract 1 3) 2 2).bind fun t146 => ((stamp_digits.f k (x0.extract 3 x0.size) 2 2).bind fun t147 => (if t146 < 0 then (stamp_zone.j1 k x0 t146 t147 true) else (stamp_zone.j1 k x0 t146 t147 (decide (t147 < 0)))))) else (none)) else (none))
def stamp_zone.j1 : Nat → ByteArray → Int → Int → Bool → Option (Int × Int)
 | 0, _, _, _, _ => none
 | k + 1, x0, x5, x6, x38 => if x38 = true then (some (0, 2)) else (if x5 > 23 then (stamp_zone.j2 k x0 x5 x6 true) else (stamp_zone.j2 k x0 x5 x6 (decide (x6 > 59))))
def stamp_zone.j2 : Nat → ByteArray → Int → Int → Bool → Option (Int × Int)
 | 0, _, _, _, _ => none
 | k + 1, x0, x5, x6, x44 => if x44 = true then (some (0, 3)) else (if 0 < (x0.size : Int) then (if (bt x0 0) = 45 then (some (wrap64 (-(wrap64 ((wrap64 (3600 * x5)) + (wrap64 (60 * x6))))), 0)) else (some (wrap64 ((wrap64 (3600 * x5)) + (wrap64 (60 * x6))), 0))) else (none))
end
def stamp_zone.f (k : Nat) (a0 : ByteArray) : Option (Int × Int) := (stamp_named.f k a0).bind fun t145 => (if t145 ≥ 0 then (some (wrap64 ((-3600) * t145), 0)) else (if (a0.size : Int) = 5 then (if 0 < (a0.size : Int) then (if (bt a0 0) = 43 then (stamp_zone.j0 k a0 false) else (stamp_zone.j0 k a0 ((bt a0 0) != 45))) else (none)) else (stamp_zone.j0 k a0 true)))
theorem stamp_zone.mono_l : ∀ k, (∀ y0 y1, LeO (stamp_zone.j0 k y0 y1) (stamp_zone.j0 (k + 1) y0 y1)) ∧ (∀ y0 y1 y2 y3, LeO (stamp_zone.j1 k y0 y1 y2 y3) (stamp_zone.j1 (k + 1) y0 y1 y2 y3)) ∧ (∀ y0 y1 y2 y3, LeO (stamp_zone.j2 k y0 y1 y2 y3) (stamp_zone.j2 (k + 1) y0 y1 y2 y3))
 | 0 => ⟨fun _ _ r h => by simp [stamp_zone.j0] at h, fun _ _ _ _ r h => by simp [stamp_zone.j1] at h, fun _ _ _ _ r h => by simp [stamp_zone.j2] at h⟩
 | k + 1 => by
  obtain ⟨ih0, ih1, ih2⟩ := stamp_zone.mono_l k
  refine ⟨?_, ?_, ?_⟩
  ·intro y0 y1
   unfold stamp_zone.j0
   repeat' first
   | (with_reducible exact ih0 _ _)
   | (with_reducible exact ih1 _ _ _ _)
   | (with_reducible exact ih2 _ _ _ _)
   | (with_reducible exact stamp_digits.mono _ _ _ _)
   | (with_reducible exact stamp_named.mono _ _)
   | (with_reducible exact LeO.refl _)
   | (with_reducible exact LeO.none _)
   | (with_reducible refine LeO.ite ?_ ?_)
   | (with_reducible refine LeO.bind ?_ (fun _ => ?_))
   | exact ih0 _ _
   | exact ih1 _ _ _ _
   | exact ih2 _ _ _ _
   | exact stamp_digits.mono _ _ _ _
   | exact stamp_named.mono _ _
   | exact LeO.none _
   | refine LeO.ite ?_ ?_
   | refine LeO.bind ?_ (fun _ => ?_)
  ·intro y0 y1 y2 y3
   unfold stamp_zone.j1
   repeat' first
   | (with_reducible exact ih0 _ _)
   | (with_reducible exact ih1 _ _ _ _)
   | (with_reducible exact ih2 _ _ _ _)
   | (with_reducible exact stamp_digits.mono _ _ _ _)
   | (with_reducible exact stamp_named.mono _ _)
   | (with_reducible exact LeO.refl _)
   | (with_reducible exact LeO.none _)
   | (with_reducible refine LeO.ite ?_ ?_)
   | (with_reducible refine LeO.bind ?_ (fun _ => ?_))
   | exact ih0 _ _
   | exact ih1 _ _ _ _
   | exact ih2 _ _ _ _
   | exact stamp_digits.mono _ _ _ _
   | exact stamp_named.mono _ _
   | exact LeO.none _
   | refine LeO.ite ?_ ?_
   | refine LeO.bind ?_ (fun _ => ?_)
  ·intro y0 y1 y2 y3
   unfold stamp_zone.j2
   repeat' first
   | (with_reducible exact ih0 _ _)
   | (with_reducible exact ih1 _ _ _ _)
   | (with_reducible exact ih2 _ _ _ _)
   | (with_reducible exact stamp_digits.mono _ _ _ _)
   | (with_reducible exact stamp_named.mono _ _)
   | (with_reducible exact LeO.refl _)
   | (with_reducible exact LeO.none _)
   | (with_reducible refine LeO.ite ?_ ?_)
   | (with_reducible refine LeO.bind ?_ (fun _ => ?_))
   | exact ih0 _ _
   | exact ih1 _ _ _ _
   | exact ih2 _ _ _ _
   | exact stamp_digits.mono _ _ _ _
   | exact stamp_named.mono _ _
   | exact LeO.none _
   | refine LeO.ite ?_ ?_
   | refine LeO.bind ?_ (fun _ => ?_)
theorem stamp_zone.mono : ∀ a0 k, LeO (stamp_zone.f k a0) (stamp_zone.f (k + 1) a0) := by
 intro a0 k
 obtain ⟨ih0, ih1, ih2⟩ := stamp_zone.mono_l k
 unfold stamp_zone.f
 repeat' first
   | (with_reducible exact ih0 _ _)
   | (with_reducible exact ih1 _ _ _ _)
   | (with_reducible exact ih2 _ _ _ _)
   | (with_reducible exact stamp_digits.mono _ _ _ _)
   | (with_reducible exact stamp_named.mono _ _)
   | (with_reducible exact LeO.refl _)
   | (with_reducible exact LeO.none _)
   | (with_reducible refine LeO.ite ?_ ?_)
   | (with_reducible refine LeO.bind ?_ (fun _ => ?_))
   | exact ih0 _ _
   | exact ih1 _ _ _ _
   | exact ih2 _ _ _ _
   | exact stamp_digits.mono _ _ _ _
   | exact stamp_named.mono _ _
   | exact LeO.none _
   | refine LeO.ite ?_ ?_
   | refine LeO.bind ?_ (fun _ => ?_)
def stamp_zone.T6 : Bool × List (List Nat × List Nat) := (true, [([], []), ([0], [0]), ([1], [1]), ([], []), ([3], [3]), ([4, 2], [4]), ([2, 5, 0, 1, 2], [2]), ([5, 6, 0, 1, 2, 3, 4, 5, 6], [5])])
def stamp_zone.B6 : List Nat := [0, 1, 3, 0, 8, 31, 63, 127]
theorem stamp_zone.tab6 : rtab .any (opsOf Tryd.f17 6) = stamp_zone.T6 := by kernel_rfl
theorem stamp_zone.bits6 : waitsOk stamp_zone.T6.2 stamp_zone.B6 = true := by kernel_rfl
set_option maxHeartbeats 8000000 in
set_option maxRecDepth 100000 in
theorem stamp_zone.calls (k : Nat) (a0 : ByteArray) (r1 : Int) (r2 : Int) (w : World) (h : stamp_zone.f k a0 = some (r1, r2)) :
  Calls Tryd.prog 17 #[.string a0] w fun e w' => e = .returned (.tuple #[.int .i64 r1, .int .i64 r2]) ∧ Below w.heap.size w w' := by
 have HB := mkA (Below.refl w.heap.size w)
 have H : ((stamp_named.f k a0).bind fun t145 => (if t145 ≥ 0 then (some (wrap64 ((-3600) * t145), 0)) else (if (a0.size : Int) = 5 then (if 0 < (a0.size : Int) then (if (bt a0 0) = 43 then (stamp_zone.j0 k a0 false) else (stamp_zone.j0 k a0 ((bt a0 0) != 45))) else (none)) else (stamp_zone.j0 k a0 true)))) = some (r1, r2) := h
 clear h
 replace H := Option.bind_eq_some_iff.mp H
 obtain ⟨t145, A20, H⟩ := H
 replace H : (if t145 ≥ 0 then (some (wrap64 ((-3600) * t145), 0)) else (if (a0.size : Int) = 5 then (if 0 < (a0.size : Int) then (if (bt a0 0) = 43 then (stamp_zone.j0 k a0 false) else (stamp_zone.j0 k a0 ((bt a0 0) != 45))) else (none)) else (stamp_zone.j0 k a0 true))) = some (r1, r2) := H
 have A2 := mkA A20
 clear A20
 by_cases c3 : t145 ≥ 0
 ·rw [if_pos c3] at H
  have c3b0 : decide (0 ≤ t145) = true := decide_eq_true c3
  clear c3
  simp only [Option.some.injEq, Prod.mk.injEq] at H
  obtain ⟨rfl, rfl⟩ := H
  as_aux_lemma =>
   go_enter Tryd.func17, Tryd.ntmps17
   go_wp2_with (first | ((with_reducible refine gate_callee (f := 37) rfl ?_); refine goesL_ (some 9) rfl rfl Tryd.func37 (by kernel_rfl) rfl #[.string a0] rfl ca ?_; (with_reducible refine (stamp_named.calls k a0 t145 _ A2.out).mono ?_); rintro e w4 ⟨rfl, hb⟩; refine ⟨_, rfl, ?_⟩; have n0_ := mkA (below_step (below_y HB.out) hb); clear HB; have HB := n0_; clear n0_; (try clear hb); (try clear hb2); (try clear hk); (try clear hi)))
   go_ret2
   exact ⟨by first | rfl | (simp [errW_none, errW_some] <;> rfl) | (simp [*, errW_none, errW_some] <;> rfl), below_y HB.out⟩
 ·rw [if_neg c3] at H
  have c3b0 : decide (0 ≤ t145) = false := decide_eq_false c3
  clear c3
  have HC5 := mkA H
  clear H
  go_enter Tryd.func17, Tryd.ntmps17
  go_upto_region 4 with (first | ((with_reducible refine gate_callee (f := 37) rfl ?_); refine goesL_ (some 9) rfl rfl Tryd.func37 (by kernel_rfl) rfl #[.string a0] rfl ca ?_; (with_reducible refine (stamp_named.calls k a0 t145 _ A2.out).mono ?_); rintro e w6 ⟨rfl, hb⟩; refine ⟨_, rfl, ?_⟩; have n0_ := mkA (below_step (below_y HB.out) hb); clear HB; have HB := n0_; clear n0_; (try clear hb); (try clear hb2); (try clear hk); (try clear hi)))
  (try simp only [Act.put, sA, s0, sS])
  go_cut [26] (fun v26 wc => ∃ (kq : Nat) (x26_4 : Bool), v26 = .bool x26_4 ∧ Aside0 (stamp_zone.j0 kq a0 x26_4 = some (r1, r2)) ∧ Aside0 (kq ≤ k) ∧ Aside0 (Below w.heap.size w wc))
  case first =>
   have H := HC5.out
   clear HC5
   by_cases c7 : (a0.size : Int) = 5
   ·rw [if_pos c7] at H
    have c7b0 : ((a0.size : Int) == 5) = true := beq_iff_eq.mpr c7
    have c7b1 : ((a0.size : Int) != 5) = false := bne_eq_false_iff_eq.mpr c7
    clear c7
    (first | rw [c7b0] | (simp only [i64_w, i32_w]; rw [c7b0]) | skip)
    by_cases c8 : 0 < (a0.size : Int)
    ·rw [if_pos c8] at H
     have c8b0 : decide (0 < (a0.size : Int)) = true := decide_eq_true c8
     have c8b1 : decide (0 < a0.size) = true := decide_eq_true (by omega)
     clear c8
     by_cases c10 : (bt a0 0) = 43
     ·rw [if_pos c10] at H
      have c10b0 : ((bt a0 0) == 43) = true := beq_iff_eq.mpr c10
      have c10b1 : ((bt a0 0) != 43) = false := bne_eq_false_iff_eq.mpr c10
      clear c10
      as_aux_lemma =>
       have H' := mkA H
       clear H
       have p9 : 0 ≤ (0 : Int) := (by omega)
       have q9 : 0 < a0.size := (by have : (0 : Int) < (a0.size : Int) := odt; omega)
       have hx9 : ∀ h : 0 < a0.size, ((a0[0]'h).toNat : Int) = bt a0 0 := bt_at a0 0
       clear p9
       have qi9 : (0 < (a0.size : Int)) = True := eq_true (odt)
       replace q9 := eq_true q9
       go_wp2
       go_meet
       case rel => exact ⟨_, (false), (by first | rfl | (simp; done) | (simp [*]; done)), H', ⟨by first | omega | exact Nat.le_refl _⟩, ⟨below_y HB.out⟩⟩
     ·rw [if_neg c10] at H
      have c10b0 : ((bt a0 0) == 43) = false := beq_eq_false_iff_ne.mpr c10
      have c10b1 : ((bt a0 0) != 43) = true := bne_iff_ne.mpr c10
      as_aux_lemma =>
       have H' := mkA H
       clear H
       have p9 : 0 ≤ (0 : Int) := (by omega)
       have q9 : 0 < a0.size := (by have : (0 : Int) < (a0.size : Int) := odt; omega)
       have hx9 : ∀ h : 0 < a0.size, ((a0[0]'h).toNat : Int) = bt a0 0 := bt_at a0 0
       clear p9
       have qi9 : (0 < (a0.size : Int)) = True := eq_true (odt)
       replace q9 := eq_true q9
       have p11 : 0 ≤ (0 : Int) := (by omega)
       have q11 : 0 < a0.size := (by have : (0 : Int) < (a0.size : Int) := odt; omega)
       have hx11 : ∀ h : 0 < a0.size, ((a0[0]'h).toNat : Int) = bt a0 0 := bt_at a0 0
       clear p11
       have qi11 : (0 < (a0.size : Int)) = True := eq_true (odt)
       replace q11 := eq_true q11
       go_wp2
       go_meet
       case rel => exact ⟨_, (((bt a0 0) != 45)), (by first | rfl | (simp; done) | (simp [*]; done)), H', ⟨by first | omega | exact Nat.le_refl _⟩, ⟨below_y HB.out⟩⟩
    ·rw [if_neg c8] at H
     exact absurd H (by simp)
   ·rw [if_neg c7] at H
    have c7b0 : ((a0.size : Int) == 5) = false := beq_eq_false_iff_ne.mpr c7
    have c7b1 : ((a0.size : Int) != 5) = true := bne_iff_ne.mpr c7
    (first | rw [c7b0] | (simp only [i64_w, i32_w]; rw [c7b0]) | skip)
    as_aux_lemma =>
     have H' := mkA H
     clear H
     go_wp2
     go_meet
     case rel => exact ⟨_, (true), (by first | rfl | (simp; done) | (simp [*]; done)), H', ⟨by first | omega | exact Nat.le_refl _⟩, ⟨below_y HB.out⟩⟩
  case rest =>
   clear HC5
   try clear c1
   try clear p1
   try clear q1
   try clear hx1
   try clear qi1
   try clear p2
   try clear c3
   try clear c3b0
   try clear p6
   try clear c7
   try clear c7b0
   try clear c7b1
   try clear c8
   try clear c8b0
   try clear c8b1
   try clear p9
   try clear q9
   try clear hx9
   try clear qi9
   try clear c10
   try clear c10b0
   try clear c10b1
   try clear p11
   try clear q11
   try clear hx11
   try clear qi11
   try clear p11
   try clear p9
   try clear q11
   try clear q9
   obtain ⟨kq, x26_4, rfl, HA, HJ4, HB⟩ := hcut
   cases kq with
   | zero => exact absurd HA.out (by simp [stamp_zone.j0])
   | succ kj4 =>
    have H := HA.out
    clear HA
    simp only [stamp_zone.j0] at H
    by_cases c12 : x26_4 = true
    ·subst c12
     have H1 : (some (0, 2)) = some (r1, r2) := by rw [if_pos rfl] at H; exact H
     clear H
     have H := H1
     clear H1
     as_aux_lemma =>
      simp only [Option.some.injEq, Prod.mk.injEq] at H
      obtain ⟨rfl, rfl⟩ := H
      go_wp2
      go_ret2
      exact ⟨by first | rfl | (simp [errW_none, errW_some] <;> rfl) | (simp [*, errW_none, errW_some] <;> rfl), below_y HB.out⟩
    ·replace c12 := Bool.eq_false_iff.mpr c12
     subst c12
     have H1 : (if 1 ≤ 3 then (if 3 ≤ (a0.size : Int) then ((stamp_digits.f kj4 (a0.extract 1 3) 2 2).bind fun t146 => ((stamp_digits.f kj4 (a0.extract 3 a0.size) 2 2).bind fun t147 => (if t146 < 0 then (stamp_zone.j1 kj4 a0 t146 t147 true) else (stamp_zone.j1 kj4 a0 t146 t147 (decide (t147 < 0)))))) else (none)) else (none)) = some (r1, r2) := by rw [if_neg (show ¬ (false = true) by decide)] at H; exact H
     clear H
     have H := H1
     clear H1
     by_cases c13 : 1 ≤ 3
     ·rw [if_pos c13] at H
      have c13b0 := eq_true c13
      have c13b1 : decide (1 ≤ 3) = true := decide_eq_true c13
      clear c13
      by_cases c14 : 3 ≤ (a0.size : Int)
      ·rw [if_pos c14] at H
       have c14b0 := eq_true c14
       have c14b1 : decide (3 ≤ (a0.size : Int)) = true := decide_eq_true c14
       clear c14
       replace H := Option.bind_eq_some_iff.mp H
       obtain ⟨t146, A150, H⟩ := H
       replace H : ((stamp_digits.f kj4 (a0.extract 3 a0.size) 2 2).bind fun t147 => (if t146 < 0 then (stamp_zone.j1 kj4 a0 t146 t147 true) else (stamp_zone.j1 kj4 a0 t146 t147 (decide (t147 < 0))))) = some (r1, r2) := H
       have A15 := mkA A150
       clear A150
       have c16b0 := eq_true (odt : 3 ≤ (a0.size : Int))
       replace H := Option.bind_eq_some_iff.mp H
       obtain ⟨t147, A170, H⟩ := H
       replace H : (if t146 < 0 then (stamp_zone.j1 kj4 a0 t146 t147 true) else (stamp_zone.j1 kj4 a0 t146 t147 (decide (t147 < 0)))) = some (r1, r2) := H
       have A17 := mkA A170
       clear A170
       have HC18 := mkA H
       clear H
       try go_wp2
       have n0_ := mkA (below_drew1 HB.out)
       clear HB
       have HB := n0_
       clear n0_
       refine start_ (n := 8) (S := fun w' => True) (ds := []) #[false, false, false, false, false, false, false, false] (by kernel_rfl) rfl rfl trivial (fun hHeld => ?_); refine with_tabW stamp_zone.tab6 stamp_zone.bits6 (fun HT_ HW_ => ?_)
       generalize wc.drew = w19 at HB hHeld ⊢
       refine pu 0 27 HT_ ?_
       refine pu 1 28 HT_ ?_
       refine pu 3 30 HT_ ?_
       refine pu 4 31 HT_ ?_
       refine one_ (i := 2) (N := some 29) #[true, true, true, true, true, false, false, false] rfl rfl (one_of HT_.out (by kernel_rfl)) (by decide) (fun K hK => ?_)
       refine goes_ Tryd.func35 (by kernel_rfl) rfl #[.string (a0.extract 1 3), .int .i64 2, .int .i64 2] (by rfl) rfl rfl ca ?_
       with_reducible refine (stamp_digits.calls kj4 (a0.extract 1 3) 2 2 t146 _ A15.out).mono ?_
       rintro e w20 ⟨rfl, hb⟩
       have hbk_w20 := mkA hb
       refine ⟨_, rfl, ?_⟩
       have n0_ := mkA (below_step (below_y HB.out) hb)
       clear HB
       have HB := n0_
       clear n0_
       (try clear hb)
       (try clear hb2)
       (try clear hk)
       (try clear hi)
       refine hK.out _ _ trivial (fun hHeld => ?_)
       clear hK K
       refine norm_ (a' := ?_) ?_ ?_
       rotate_left
       ·show Act.put _ (some 29) _ = _
        simp only [Act.put, sA, s0, sS, i64_w, i32_w]
        rfl
       refine one_ (i := 5) (N := some 32) #[true, true, true, true, true, true, false, false] rfl rfl (one_of HT_.out (by kernel_rfl)) (by decide) (fun K hK => ?_)
       refine goes_ Tryd.func35 (by kernel_rfl) rfl #[.string (a0.extract 3 a0.size), .int .i64 2, .int .i64 2] (by rfl) rfl rfl ca ?_
       with_reducible refine (stamp_digits.calls kj4 (a0.extract 3 a0.size) 2 2 t147 _ A17.out).mono ?_
       rintro e w21 ⟨rfl, hb⟩
       have hbk_w21 := mkA hb
       refine ⟨_, rfl, ?_⟩
       have n0_ := mkA (below_step (below_y HB.out) hb)
       clear HB
       have HB := n0_
       clear n0_
       (try clear hb)
       (try clear hb2)
       (try clear hk)
       (try clear hi)
       refine hK.out _ _ trivial (fun hHeld => ?_)
       clear hK K
       refine norm_ (a' := ?_) ?_ ?_
       rotate_left
       ·show Act.put _ (some 32) _ = _
        simp only [Act.put, sA, s0, sS, i64_w, i32_w]
        rfl
       refine pu 6 5 HT_ ?_
       refine pu 7 6 HT_ ?_
       refine done_ (done_of HT_.out (by kernel_rfl)) ?_
       go_upto_region 7 with (fail)
       go_cut [38] (fun v38 wc => ∃ (kq : Nat) (x38_17 : Bool), v38 = .bool x38_17 ∧ Aside0 (stamp_zone.j1 kq a0 t146 t147 x38_17 = some (r1, r2)) ∧ Aside0 (kq ≤ kj4) ∧ Aside0 (Below w.heap.size w wc))
       case first =>
        have H := HC18.out
        clear HC18
        by_cases c22 : t146 < 0
        ·rw [if_pos c22] at H
         have c22b0 : decide (t146 < 0) = true := decide_eq_true c22
         clear c22
         (first | rw [c22b0] | (simp only [i64_w, i32_w]; rw [c22b0]) | skip)
         as_aux_lemma =>
          have H' := mkA H
          clear H
          go_wp2
          go_meet
          case rel => exact ⟨_, (true), (by first | rfl | (simp; done) | (simp [*]; done)), H', ⟨by have := HJ4.out; first | omega | exact Nat.le_refl _⟩, ⟨below_y HB.out⟩⟩
        ·rw [if_neg c22] at H
         have c22b0 : decide (t146 < 0) = false := decide_eq_false c22
         clear c22
         (first | rw [c22b0] | (simp only [i64_w, i32_w]; rw [c22b0]) | skip)
         as_aux_lemma =>
          have H' := mkA H
          clear H
          go_wp2
          go_meet
          case rel => exact ⟨_, (decide (t147 < 0)), (by first | rfl | (simp; done) | (simp [*]; done)), H', ⟨by have := HJ4.out; first | omega | exact Nat.le_refl _⟩, ⟨below_y HB.out⟩⟩
       case rest =>
        clear HC18
        try clear c1
        try clear p1
        try clear q1
        try clear hx1
        try clear qi1
        try clear c2
        try clear p2
        try clear c3
        try clear c3b0
        try clear p6
        try clear c7
        try clear c7b0
        try clear c7b1
        try clear c8
        try clear c8b0
        try clear c8b1
        try clear p9
        try clear q9
        try clear hx9
        try clear qi9
        try clear c10
        try clear c10b0
        try clear c10b1
        try clear p11
        try clear q11
        try clear hx11
        try clear qi11
        try clear c12
        try clear c13
        try clear c13b0
        try clear c13b1
        try clear c14
        try clear c14b0
        try clear c14b1
        try clear c16
        try clear c16b0
        try clear c17
        try clear c22
        try clear c22b0
        try clear p1
        try clear p11
        try clear p2
        try clear p6
        try clear p9
        try clear q1
        try clear q11
        try clear q9
        obtain ⟨kq, x38_17, rfl, HA, HJ17, HB⟩ := hcut
        cases kq with
        | zero => exact absurd HA.out (by simp [stamp_zone.j1])
        | succ kj17 =>
         have H := HA.out
         clear HA
         simp only [stamp_zone.j1] at H
         by_cases c23 : x38_17 = true
         ·subst c23
          have H1 : (some (0, 2)) = some (r1, r2) := by rw [if_pos rfl] at H; exact H
          clear H
          have H := H1
          clear H1
          as_aux_lemma =>
           simp only [Option.some.injEq, Prod.mk.injEq] at H
           obtain ⟨rfl, rfl⟩ := H
           go_wp2
           go_ret2
           exact ⟨by first | rfl | (simp [errW_none, errW_some] <;> rfl) | (simp [*, errW_none, errW_some] <;> rfl), below_y HB.out⟩
         ·replace c23 := Bool.eq_false_iff.mpr c23
          subst c23
          have H1 : (if t146 > 23 then (stamp_zone.j2 kj17 a0 t146 t147 true) else (stamp_zone.j2 kj17 a0 t146 t147 (decide (t147 > 59)))) = some (r1, r2) := by rw [if_neg (show ¬ (false = true) by decide)] at H; exact H
          clear H
          have H := H1
          clear H1
          have HC24 := mkA H
          clear H
          go_upto_region 9 with (fail)
          go_cut [44] (fun v44 wc => ∃ (kq : Nat) (x44_23 : Bool), v44 = .bool x44_23 ∧ Aside0 (stamp_zone.j2 kq a0 t146 t147 x44_23 = some (r1, r2)) ∧ Aside0 (kq ≤ kj17) ∧ Aside0 (Below w.heap.size w wc))
          case first =>
           have H := HC24.out
           clear HC24
           by_cases c25 : t146 > 23
           ·rw [if_pos c25] at H
            have c25b0 : decide (23 < t146) = true := decide_eq_true c25
            clear c25
            (first | rw [c25b0] | (simp only [i64_w, i32_w]; rw [c25b0]) | skip)
            as_aux_lemma =>
             have H' := mkA H
             clear H
             go_wp2
             go_meet
             case rel => exact ⟨_, (true), (by first | rfl | (simp; done) | (simp [*]; done)), H', ⟨by have := HJ4.out; have := HJ17.out; first | omega | exact Nat.le_refl _⟩, ⟨below_y HB.out⟩⟩
           ·rw [if_neg c25] at H
            have c25b0 : decide (23 < t146) = false := decide_eq_false c25
            clear c25
            (first | rw [c25b0] | (simp only [i64_w, i32_w]; rw [c25b0]) | skip)
            as_aux_lemma =>
             have H' := mkA H
             clear H
             go_wp2
             go_meet
             case rel => exact ⟨_, (decide (t147 > 59)), (by first | rfl | (simp; done) | (simp [*]; done)), H', ⟨by have := HJ4.out; have := HJ17.out; first | omega | exact Nat.le_refl _⟩, ⟨below_y HB.out⟩⟩
          case rest =>
           clear HC24
           try clear c1
           try clear p1
           try clear q1
           try clear hx1
           try clear qi1
           try clear c2
           try clear p2
           try clear c3
           try clear c3b0
           try clear p6
           try clear c7
           try clear c7b0
           try clear c7b1
           try clear c8
           try clear c8b0
           try clear c8b1
           try clear p9
           try clear q9
           try clear hx9
           try clear qi9
           try clear c10
           try clear c10b0
           try clear c10b1
           try clear p11
           try clear q11
           try clear hx11
           try clear qi11
           try clear c12
           try clear c13
           try clear c13b0
           try clear c13b1
           try clear c14
           try clear c14b0
           try clear c14b1
           try clear c16
           try clear c16b0
           try clear c17
           try clear c22
           try clear c22b0
           try clear c23
           try clear c25
           try clear c25b0
           try clear p1
           try clear p11
           try clear p2
           try clear p6
           try clear p9
           try clear q1
           try clear q11
           try clear q9
           obtain ⟨kq, x44_23, rfl, HA, HJ23, HB⟩ := hcut
           cases kq with
           | zero => exact absurd HA.out (by simp [stamp_zone.j2])
           | succ kj23 =>
            have H := HA.out
            clear HA
            simp only [stamp_zone.j2] at H
            by_cases c26 : x44_23 = true
            ·subst c26
             have H1 : (some (0, 3)) = some (r1, r2) := by rw [if_pos rfl] at H; exact H
             clear H
             have H := H1
             clear H1
             as_aux_lemma =>
              simp only [Option.some.injEq, Prod.mk.injEq] at H
              obtain ⟨rfl, rfl⟩ := H
              go_wp2
              go_ret2
              exact ⟨by first | rfl | (simp [errW_none, errW_some] <;> rfl) | (simp [*, errW_none, errW_some] <;> rfl), below_y HB.out⟩
            ·replace c26 := Bool.eq_false_iff.mpr c26
             subst c26
             have H1 : (if 0 < (a0.size : Int) then (if (bt a0 0) = 45 then (some (wrap64 (-(wrap64 ((wrap64 (3600 * t146)) + (wrap64 (60 * t147))))), 0)) else (some (wrap64 ((wrap64 (3600 * t146)) + (wrap64 (60 * t147))), 0))) else (none)) = some (r1, r2) := by rw [if_neg (show ¬ (false = true) by decide)] at H; exact H
             clear H
             have H := H1
             clear H1
             by_cases c27 : 0 < (a0.size : Int)
             ·rw [if_pos c27] at H
              have c27b0 : decide (0 < (a0.size : Int)) = true := decide_eq_true c27
              have c27b1 : decide (0 < a0.size) = true := decide_eq_true (by omega)
              clear c27
              by_cases c29 : (bt a0 0) = 45
              ·rw [if_pos c29] at H
               have c29b0 : ((bt a0 0) == 45) = true := beq_iff_eq.mpr c29
               have c29b1 : ((bt a0 0) != 45) = false := bne_eq_false_iff_eq.mpr c29
               clear c29
               as_aux_lemma =>
                simp only [Option.some.injEq, Prod.mk.injEq] at H
                obtain ⟨rfl, rfl⟩ := H
                have p28 : 0 ≤ (0 : Int) := (by omega)
                have q28 : 0 < a0.size := (by have : (0 : Int) < (a0.size : Int) := odt; omega)
                have hx28 : ∀ h : 0 < a0.size, ((a0[0]'h).toNat : Int) = bt a0 0 := bt_at a0 0
                clear p28
                have qi28 : (0 < (a0.size : Int)) = True := eq_true (odt)
                replace q28 := eq_true q28
                go_wp2
                go_ret2
                exact ⟨by first | rfl | (simp [errW_none, errW_some] <;> rfl) | (simp [*, errW_none, errW_some] <;> rfl), below_y HB.out⟩
              ·rw [if_neg c29] at H
               have c29b0 : ((bt a0 0) == 45) = false := beq_eq_false_iff_ne.mpr c29
               have c29b1 : ((bt a0 0) != 45) = true := bne_iff_ne.mpr c29
               as_aux_lemma =>
                simp only [Option.some.injEq, Prod.mk.injEq] at H
                obtain ⟨rfl, rfl⟩ := H
                have p28 : 0 ≤ (0 : Int) := (by omega)
                have q28 : 0 < a0.size := (by have : (0 : Int) < (a0.size : Int) := odt; omega)
                have hx28 : ∀ h : 0 < a0.size, ((a0[0]'h).toNat : Int) = bt a0 0 := bt_at a0 0
                clear p28
                have qi28 : (0 < (a0.size : Int)) = True := eq_true (odt)
                replace q28 := eq_true q28
                go_wp2
                go_ret2
                exact ⟨by first | rfl | (simp [errW_none, errW_some] <;> rfl) | (simp [*, errW_none, errW_some] <;> rfl), below_y HB.out⟩
             ·rw [if_neg c27] at H
              exact absurd H (by simp)
      ·rw [if_neg c14] at H
       exact absurd H (by simp)
     ·rw [if_neg c13] at H
      exact absurd H (by simp)

/-! ### stamp_before: function 18 -/
mutual
def stamp_before.l0 : Nat → Int → Int → Int → Int → Option (Int)
 | 0, _, _, _, _ => none
 | k + 1, x0, x1, x5, x6 => if x6 < x0 then ((stamp_leap.f x6).bind fun t148 => (if t148 = true then (stamp_before.l0 k x0 x1 (wrap64 ((wrap64 (x5 + 365)) + 1)) (wrap64 (x6 + 1))) else (stamp_before.l0 k x0 x1 (wrap64 (x5 + 365)) (wrap64 (x6 + 1))))) else (stamp_before.l1 k x0 x1 x5 1)
def stamp_before.l1 : Nat → Int → Int → Int → Int → Option (Int)
 | 0, _, _, _, _ => none
 | k + 1, x0, x1, x5, x7 => if x7 < x1 then ((stamp_Days.f x0 x7).bind fun t149 => (stamp_before.l1 k x0 x1 (wrap64 (x5 + t149)) (wrap64 (x7 + 1)))) else (some x5)
end
def stamp_before.f (k : Nat) (a0 : Int) (a1 : Int) : Option (Int) := stamp_before.l0 k a0 a1 0 1970
theorem stamp_before.mono_l : ∀ k, (∀ y0 y1 y2 y3, LeO (stamp_before.l0 k y0 y1 y2 y3) (stamp_before.l0 (k + 1) y0 y1 y2 y3)) ∧ (∀ y0 y1 y2 y3, LeO (stamp_before.l1 k y0 y1 y2 y3) (stamp_before.l1 (k + 1) y0 y1 y2 y3))
 | 0 => ⟨fun _ _ _ _ r h => by simp [stamp_before.l0] at h, fun _ _ _ _ r h => by simp [stamp_before.l1] at h⟩
 | k + 1 => by
  obtain ⟨ih0, ih1⟩ := stamp_before.mono_l k
  refine ⟨?_, ?_⟩
  ·intro y0 y1 y2 y3
   unfold stamp_before.l0
   repeat' first
   | (with_reducible exact ih0 _ _ _ _)
   | (with_reducible exact ih1 _ _ _ _)
   | (with_reducible exact LeO.refl _)
   | (with_reducible exact LeO.none _)
   | (with_reducible refine LeO.ite ?_ ?_)
   | (with_reducible refine LeO.bind ?_ (fun _ => ?_))
   | exact ih0 _ _ _ _
   | exact ih1 _ _ _ _
   | exact LeO.none _
   | refine LeO.ite ?_ ?_
   | refine LeO.bind ?_ (fun _ => ?_)
  ·intro y0 y1 y2 y3
   unfold stamp_before.l1
   repeat' first
   | (with_reducible exact ih0 _ _ _ _)
   | (with_reducible exact ih1 _ _ _ _)
   | (with_reducible exact LeO.refl _)
   | (with_reducible exact LeO.none _)
   | (with_reducible refine LeO.ite ?_ ?_)
   | (with_reducible refine LeO.bind ?_ (fun _ => ?_))
   | exact ih0 _ _ _ _
   | exact ih1 _ _ _ _
   | exact LeO.none _
   | refine LeO.ite ?_ ?_
   | refine LeO.bind ?_ (fun _ => ?_)
theorem stamp_before.mono : ∀ a0 a1 k, LeO (stamp_before.f k a0 a1) (stamp_before.f (k + 1) a0 a1) := by
 intro a0 a1 k
 obtain ⟨ih0, ih1⟩ := stamp_before.mono_l k
 unfold stamp_before.f
 repeat' first
   | (with_reducible exact ih0 _ _ _ _)
   | (with_reducible exact ih1 _ _ _ _)
   | (with_reducible exact LeO.refl _)
   | (with_reducible exact LeO.none _)
   | (with_reducible refine LeO.ite ?_ ?_)
   | (with_reducible refine LeO.bind ?_ (fun _ => ?_))
   | exact ih0 _ _ _ _
   | exact ih1 _ _ _ _
   | exact LeO.none _
   | refine LeO.ite ?_ ?_
   | refine LeO.bind ?_ (fun _ => ?_)
set_option maxHeartbeats 8000000 in
set_option maxRecDepth 100000 in
theorem stamp_before.calls (k : Nat) (a0 : Int) (a1 : Int) (r : Int) (w : World) (h : stamp_before.f k a0 a1 = some r) :
  Calls Tryd.prog 18 #[.int .i64 a0, .int .i64 a1] w fun e w' => e = .returned (.int .i64 r) ∧ Below w.heap.size w w' := by
 have HB := mkA (Below.refl w.heap.size w)
 have H : (stamp_before.l0 k a0 a1 0 1970) = some r := h
 clear h
 have H' := mkA H
 clear H
 go_enter Tryd.func18, Tryd.ntmps18
 go_wp2
 go_loopg [5, 6] k (fun kq v5 v6 w' => ∃ (x5_1 : Int) (x6_1 : Int), v5 = .int .i64 x5_1 ∧ v6 = .int .i64 x6_1 ∧ Aside0 (stamp_before.l0 kq a0 a1 x5_1 x6_1 = some r) ∧ Aside0 (kq ≤ k) ∧ Aside0 (Below w.heap.size w w'))
 case atStart => exact ⟨(0), (1970), (by first | rfl | (simp; done) | (simp [*]; done)), (by first | rfl | (simp; done) | (simp [*]; done)), H', ⟨Nat.le_refl _⟩, ⟨below_y HB.out⟩⟩
 case round =>
  clear H'
  try clear c1
  try clear p2
  obtain ⟨x5_1, x6_1, rfl, rfl, HA, HK1, HB⟩ := hrel
  cases gk with
  | zero => exact absurd HA.out (by simp [stamp_before.l0])
  | succ k1 =>
   have H := HA.out
   clear HA
   simp only [stamp_before.l0] at H
   by_cases c3 : x6_1 < a0
   ·rw [if_pos c3] at H
    have c3b0 : decide (x6_1 < a0) = true := decide_eq_true c3
    clear c3
    replace H := Option.bind_eq_some_iff.mp H
    obtain ⟨t148, A40, H⟩ := H
    replace H : (if t148 = true then (stamp_before.l0 k1 a0 a1 (wrap64 ((wrap64 (x5_1 + 365)) + 1)) (wrap64 (x6_1 + 1))) else (stamp_before.l0 k1 a0 a1 (wrap64 (x5_1 + 365)) (wrap64 (x6_1 + 1)))) = some r := H
    have A4 := mkA A40
    clear A40
    by_cases c5 : t148 = true
    ·subst c5
     have H1 : (stamp_before.l0 k1 a0 a1 (wrap64 ((wrap64 (x5_1 + 365)) + 1)) (wrap64 (x6_1 + 1))) = some r := by rw [if_pos rfl] at H; exact H
     clear H
     have H := H1
     clear H1
     as_aux_lemma =>
      have H' := mkA H
      clear H
      go_wp2_with (first | ((with_reducible refine gate_callee (f := 28) rfl ?_); refine goesL_ (some 16) rfl rfl Tryd.func28 (by kernel_rfl) rfl #[.int .i64 x6_1] rfl ca ?_; (with_reducible refine (stamp_leap.calls x6_1 true _ A4.out).mono ?_); rintro e w' ⟨rfl, ⟨nd, rfl⟩⟩; refine ⟨_, rfl, ?_⟩))
      go_roundg k1
      case measure => have := HK1.out; omega
      case rel => exact ⟨(wrap64 ((wrap64 (x5_1 + 365)) + 1)), (wrap64 (x6_1 + 1)), (by first | rfl | (simp; done) | (simp [*]; done)), (by first | rfl | (simp; done) | (simp [*]; done)), H', ⟨by have := HK1.out; omega⟩, ⟨below_y HB.out⟩⟩
    ·replace c5 := Bool.eq_false_iff.mpr c5
     subst c5
     have H1 : (stamp_before.l0 k1 a0 a1 (wrap64 (x5_1 + 365)) (wrap64 (x6_1 + 1))) = some r := by rw [if_neg (show ¬ (false = true) by decide)] at H; exact H
     clear H
     have H := H1
     clear H1
     as_aux_lemma =>
      have H' := mkA H
      clear H
      go_wp2_with (first | ((with_reducible refine gate_callee (f := 28) rfl ?_); refine goesL_ (some 16) rfl rfl Tryd.func28 (by kernel_rfl) rfl #[.int .i64 x6_1] rfl ca ?_; (with_reducible refine (stamp_leap.calls x6_1 false _ A4.out).mono ?_); rintro e w' ⟨rfl, ⟨nd, rfl⟩⟩; refine ⟨_, rfl, ?_⟩))
      go_roundg k1
      case measure => have := HK1.out; omega
      case rel => exact ⟨(wrap64 (x5_1 + 365)), (wrap64 (x6_1 + 1)), (by first | rfl | (simp; done) | (simp [*]; done)), (by first | rfl | (simp; done) | (simp [*]; done)), H', ⟨by have := HK1.out; omega⟩, ⟨below_y HB.out⟩⟩
   ·rw [if_neg c3] at H
    have c3b0 : decide (x6_1 < a0) = false := decide_eq_false c3
    clear c3
    have H' := mkA H
    clear H
    go_wp2
    go_loopg [5, 7] k1 (fun kq v5 v7 w' => ∃ (x5_2 : Int) (x7_2 : Int), v5 = .int .i64 x5_2 ∧ v7 = .int .i64 x7_2 ∧ Aside0 (stamp_before.l1 kq a0 a1 x5_2 x7_2 = some r) ∧ Aside0 (kq ≤ k1) ∧ Aside0 (Below w.heap.size w w'))
    case atStart => exact ⟨(x5_1), (1), (by first | rfl | (simp; done) | (simp [*]; done)), (by first | rfl | (simp; done) | (simp [*]; done)), H', ⟨Nat.le_refl _⟩, ⟨below_y HB.out⟩⟩
    case round =>
     clear H'
     try clear c1
     try clear c2
     try clear p2
     try clear c3
     try clear c3b0
     try clear c5
     try clear p2
     obtain ⟨x5_2, x7_2, rfl, rfl, HA, HK2, HB⟩ := hrel
     cases gk with
     | zero => exact absurd HA.out (by simp [stamp_before.l1])
     | succ k2 =>
      have H := HA.out
      clear HA
      simp only [stamp_before.l1] at H
      by_cases c6 : x7_2 < a1
      ·rw [if_pos c6] at H
       have c6b0 : decide (x7_2 < a1) = true := decide_eq_true c6
       clear c6
       replace H := Option.bind_eq_some_iff.mp H
       obtain ⟨t149, A70, H⟩ := H
       replace H : (stamp_before.l1 k2 a0 a1 (wrap64 (x5_2 + t149)) (wrap64 (x7_2 + 1))) = some r := H
       have A7 := mkA A70
       clear A70
       as_aux_lemma =>
        have H' := mkA H
        clear H
        go_wp2_with (first | ((with_reducible refine gate_callee (f := 10) rfl ?_); refine goesL_ (some 27) rfl rfl Tryd.func10 (by kernel_rfl) rfl #[.int .i64 a0, .int .i64 x7_2] rfl ca ?_; (with_reducible refine (stamp_Days.calls a0 x7_2 t149 _ A7.out).mono ?_); rintro e w8 ⟨rfl, hb⟩; refine ⟨_, rfl, ?_⟩; have n0_ := mkA (below_step (below_y HB.out) hb); clear HB; have HB := n0_; clear n0_; (try clear hb); (try clear hb2); (try clear hk); (try clear hi)))
        go_roundg k2
        case measure => have := HK1.out; have := HK2.out; omega
        case rel => exact ⟨(wrap64 (x5_2 + t149)), (wrap64 (x7_2 + 1)), (by first | rfl | (simp; done) | (simp [*]; done)), (by first | rfl | (simp; done) | (simp [*]; done)), H', ⟨by have := HK1.out; have := HK2.out; omega⟩, ⟨below_y HB.out⟩⟩
      ·rw [if_neg c6] at H
       have c6b0 : decide (x7_2 < a1) = false := decide_eq_false c6
       clear c6
       as_aux_lemma =>
        obtain rfl := Option.some.inj H
        go_wp2
        go_ret
        exact ⟨by first | rfl | (simp [errW_none, errW_some] <;> rfl) | (simp [*, errW_none, errW_some] <;> rfl), below_y HB.out⟩

-- NOT PRINTED: function 87 (unicode_to)

-- NOT PRINTED: function 77 (unicode_To)

-- NOT PRINTED: function 58 (unicode_ToUpper)

/-! ### strings_ToUpper: function 44 -/
theorem strings_ToUpper.extra : Builder.Extra Tryd.prog Tryd.lays158_ren := {
 sizeBuilder := by kernel_rfl
 liesBuilder := by kernel_rfl
 t5 := Tryd.underlying5
 a5 := Tryd.isAgg5
 z5 := Tryd.sizeOf5
 v5 := Tryd.zeroValue5
 infoByte := by kernel_rfl
 cellsByte := by kernel_rfl
 sizeByte := by kernel_rfl
 neB5 := by decide }
def strings_ToUpper.f (a0 : ByteArray) : Option ByteArray := if a0.size ≤ 140737488355328 ∧ a0.data.toList.all (fun b => decide (b.toNat < 128)) = true then some ⟨(Lib.toUpperA a0.data.toList).toArray⟩ else none
theorem strings_ToUpper.calls (a0 : ByteArray) (r : ByteArray) (w : World) (h : strings_ToUpper.f a0 = some r) :
  Calls Tryd.prog 44 #[.string a0] w fun e w' => e = .returned (.string r) ∧ Below w.heap.size w w' := by
 unfold strings_ToUpper.f at h
 split at h
 ·rename_i hs
  obtain rfl := Option.some.inj h
  exact Any.strings_ToUpper_ascii Tryd.lays158 strings_ToUpper.extra a0 w hs.1 (ascii_of_all hs.2)
 ·cases h

end Go.Proofs.YtghdkpcpgpfgcaaDoor.XStb
