-- By a program of this work (xprint.py) over the translation; Lean checks it.
import Derived.Test.YtghdkpcpgpfgcaaDoorXStax0
namespace Go.Proofs.YtghdkpcpgpfgcaaDoor.XSta
open Go.RowKit Go.Proofs.YtghdkpcpgpfgcaaDoorW.PrintWords Go.Proofs.YtghdkpcpgpfgcaaDoorW.PrintLast Go.Proofs.YtghdkpcpgpfgcaaDoorW.PrintMore
attribute [local go_sem] max2_int min2_int max_two min_two max_three min_three max_four min_four   -- for this text's walks alone
set_option linter.unusedVariables false
set_option linter.unusedSimpArgs false

-- NOT PRINTED: function 29 (strings_FieldsFunc)

/-! ### stamp_fields_1: function 30 -/
def stamp_fields_1.f (a0 : Int) : Option (Bool) := if a0 = 32 then (some true) else (some (a0 == 9))
set_option maxHeartbeats 8000000 in
set_option maxRecDepth 100000 in
theorem stamp_fields_1.calls (a0 : Int) (r : Bool) (w : World) (h : stamp_fields_1.f a0 = some r) :
    Calls Tryd.prog 30 #[.int .i32 a0] w fun e w' => e = .returned (.bool r) ∧ Drawn0 w w' := by
  have H : (if a0 = 32 then (some true) else (some (a0 == 9))) = some r := h
  clear h
  by_cases c2 : a0 = 32
  · rw [if_pos c2] at H
    have c2b0 : (a0 == 32) = true := beq_iff_eq.mpr c2
    have c2b1 : (a0 != 32) = false := bne_eq_false_iff_eq.mpr c2
    clear c2
    obtain rfl := Option.some.inj H
    as_aux_lemma =>
      go_enter Tryd.func30, Tryd.ntmps30
      go_wp2
      go_ret
      exact ⟨by first | rfl | (simp; done) | (simp [*]; done), by repeat (first | exact Drawn0.refl _ | apply Drawn0.step)⟩
  · rw [if_neg c2] at H
    have c2b0 : (a0 == 32) = false := beq_eq_false_iff_ne.mpr c2
    have c2b1 : (a0 != 32) = true := bne_iff_ne.mpr c2
    obtain rfl := Option.some.inj H
    as_aux_lemma =>
      go_enter Tryd.func30, Tryd.ntmps30
      go_wp2
      go_ret
      exact ⟨by first | rfl | (simp; done) | (simp [*]; done), by repeat (first | exact Drawn0.refl _ | apply Drawn0.step)⟩

/-! ### stamp_fields: function 12 -/
def stamp_fields.blank (x : Nat) : Bool := x == 32 || x == 9
def stamp_fields.f (a0 : ByteArray) : Option (List ByteArray) := if a0.size ≤ 4294967296 ∧ (Lib.goFieldsP stamp_fields.blank a0).length ≤ 9223372036854775807 then some (Lib.goFieldsP stamp_fields.blank a0) else none
theorem stamp_fields.clo (W : World) (x : Nat) (hx : x ≤ 1114111) :
    Calls Tryd.prog 30 #[encR x] W fun e w' => e = .returned (.bool (stamp_fields.blank x)) ∧ Below W.heap.size W w' := by
  unfold encR stamp_fields.blank
  have h1 : ((x : Int) == 32) = (x == 32) := by
    by_cases h : x = 32
    · subst h; rfl
    · rw [beq_eq_false_iff_ne.mpr h, beq_eq_false_iff_ne.mpr (by omega)]
  have h2 : ((x : Int) == 9) = (x == 9) := by
    by_cases h : x = 9
    · subst h; rfl
    · rw [beq_eq_false_iff_ne.mpr h, beq_eq_false_iff_ne.mpr (by omega)]
  rw [← h1, ← h2]
  clear h1 h2
  cases hb : ((x : Int) == 32) <;> cases hc : ((x : Int) == 9) <;> (
    go_enter Tryd.func30, Tryd.ntmps30
    go_wp2
    go_ret
    exact ⟨by first | rfl | simp [*], Below.refl _ _⟩)
theorem stamp_fields.calls (a0 : ByteArray) (r : List ByteArray) (w : World) (h : stamp_fields.f a0 = some r) :
    Calls Tryd.prog 12 #[.string a0] w fun e w' => ∃ v0_ : Value, e = .returned (v0_) ∧ Kd.V Kd.string 9 w' w.heap.size (fun k_ => (w.heap.size ≤ k_)) v0_ r ∧ Below w.heap.size w w' := by
  unfold stamp_fields.f at h
  split at h
  · rename_i hs0
    obtain ⟨hs, hlen⟩ := hs0
    have HLN := Aside0.mk hlen
    clear hlen
    obtain rfl := Option.some.inj h
    have H := Aside0.mk (Any.strings_FieldsFunc_grows Tryd.lays229 30 #[] (enters_of Tryd.func30 (by kernel_rfl) rfl) stamp_fields.blank a0 w hs (fun W x hx _ => stamp_fields.clo W x hx) (by kernel_rfl) (by kernel_rfl))
    clear hs h
    generalize Lib.goFieldsP stamp_fields.blank a0 = l at H HLN ⊢
    go_enter Tryd.func12, Tryd.ntmps12
    go_wp2_with (go_at_call 29; refine H.out.mono ?_; rintro e w' ⟨Aa, rfl, hA, ho, hb⟩; have HA := Aside0.mk hA; have HO := Aside0.mk ho; have HB := Aside0.mk hb; clear H hA ho hb)
    go_ret
    obtain ⟨hl, ho⟩ := HO.out
    refine ⟨_, rfl, ?_, HB.out⟩
    refine ⟨_, l.length, rfl, Nat.le_refl _, fun W' hW => ?_⟩
    refine ⟨rfl, HLN.out, fun h0 => ⟨⟨Aa, 0, none⟩, rfl, fun j p hj2 => ⟨[.string p], rfl, rfl, fun i u hu => ?_⟩⟩⟩
    cases i with
    | succ i => simp at hu
    | zero =>
      obtain rfl : Value.string p = u := Option.some.inj hu
      have hjl := (List.getElem?_eq_some_iff.1 hj2).1
      show W'.cell? (Addr.add ⟨Aa, 0, none⟩ (j * 1 + 0)) = _
      rw [Nat.mul_one, Nat.add_zero, add_plain]
      rcases ho with ⟨he, hn⟩ | ⟨g, cap, cur, he, hg, hblk, h1, h2, h3, h4⟩
      · omega
      · injection he with e1 e2 e3
        injection e1 with e1
        injection e1 with e1
        subst e1
        have hcj : w'.cell? ⟨Aa, 0 + j, none⟩ = some (.string p) := by
          rw [blk_cell hblk (0 + j), Nat.zero_add]
          have : (cur.toList.take (l.length * 1))[j]? = some (.string p) := by rw [h4, List.getElem?_map, hj2]; rfl
          rw [List.getElem?_take, if_pos (by omega)] at this
          rw [← Array.getElem?_toList]
          exact this
        have hb := hW Aa hg (World.block_lt_of_cell? w' _ hcj)
        have hsame : W'.cell? ⟨Aa, j, none⟩ = w'.cell? ⟨Aa, 0 + j, none⟩ := by rw [Nat.zero_add]; unfold World.cell?; rw [hb]
        rw [hsame, hcj]
  · cases h

end Go.Proofs.YtghdkpcpgpfgcaaDoor.XSta
