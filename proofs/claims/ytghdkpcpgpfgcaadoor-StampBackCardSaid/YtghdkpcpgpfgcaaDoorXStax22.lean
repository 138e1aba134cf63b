-- By a program of this work (xprint.py) over the translation; Lean checks it.
import Derived.Test.YtghdkpcpgpfgcaaDoorXStax0
import Derived.Test.YtghdkpcpgpfgcaaDoorXStax10
namespace Go.Proofs.YtghdkpcpgpfgcaaDoor.XSta
open Go.RowKit Go.Proofs.YtghdkpcpgpfgcaaDoorW.PrintWords Go.Proofs.YtghdkpcpgpfgcaaDoorW.PrintLast Go.Proofs.YtghdkpcpgpfgcaaDoorW.PrintMore
attribute [local go_sem] max2_int min2_int max_two min_two max_three min_three max_four min_four   -- for this text's walks alone
set_option linter.unusedVariables false
set_option linter.unusedSimpArgs false

/-! ### stamp_named: function 37 -/
mutual
def stamp_named.j0 : Nat → ByteArray → Bool → Option (Int)
  | 0, _, _ => none
  | k + 1, x4, x5 => if x5 = true then (some 0) else (if x4.toList = ([101, 100, 116] : List UInt8) then (some 4) else (if x4.toList = ([101, 115, 116] : List UInt8) then (stamp_named.j1 k x4 (x4.toList == ([101, 115, 116] : List UInt8))) else (stamp_named.j1 k x4 (x4.toList == ([99, 100, 116] : List UInt8)))))
def stamp_named.j1 : Nat → ByteArray → Bool → Option (Int)
  | 0, _, _ => none
  | k + 1, x4, x12 => if x12 = true then (some 5) else (if x4.toList = ([99, 115, 116] : List UInt8) then (stamp_named.j2 k x4 (x4.toList == ([99, 115, 116] : List UInt8))) else (stamp_named.j2 k x4 (x4.toList == ([109, 100, 116] : List UInt8))))
def stamp_named.j2 : Nat → ByteArray → Bool → Option (Int)
  | 0, _, _ => none
  | k + 1, x4, x15 => if x15 = true then (some 6) else (if x4.toList = ([109, 115, 116] : List UInt8) then (stamp_named.j3 k x4 (x4.toList == ([109, 115, 116] : List UInt8))) else (stamp_named.j3 k x4 (x4.toList == ([112, 100, 116] : List UInt8))))
def stamp_named.j3 : Nat → ByteArray → Bool → Option (Int)
  | 0, _, _ => none
  | k + 1, x4, x18 => if x18 = true then (some 7) else (if x4.toList = ([112, 115, 116] : List UInt8) then (some 8) else (some (-1)))
end
def stamp_named.f (k : Nat) (a0 : ByteArray) : Option (Int) := (text_Lower.f a0).bind fun t144 => (if t144.toList = ([103, 109, 116] : List UInt8) then (stamp_named.j0 k t144 (t144.toList == ([103, 109, 116] : List UInt8))) else (if t144.toList = ([117, 116] : List UInt8) then (stamp_named.j0 k t144 (t144.toList == ([117, 116] : List UInt8))) else (if t144.toList = ([117, 116, 99] : List UInt8) then (stamp_named.j0 k t144 (t144.toList == ([117, 116, 99] : List UInt8))) else (stamp_named.j0 k t144 (t144.toList == ([122] : List UInt8))))))
theorem stamp_named.mono_l : ∀ k, (∀ y0 y1, LeO (stamp_named.j0 k y0 y1) (stamp_named.j0 (k + 1) y0 y1)) ∧ (∀ y0 y1, LeO (stamp_named.j1 k y0 y1) (stamp_named.j1 (k + 1) y0 y1)) ∧ (∀ y0 y1, LeO (stamp_named.j2 k y0 y1) (stamp_named.j2 (k + 1) y0 y1)) ∧ (∀ y0 y1, LeO (stamp_named.j3 k y0 y1) (stamp_named.j3 (k + 1) y0 y1))
  | 0 => ⟨fun _ _ r h => by simp [stamp_named.j0] at h, fun _ _ r h => by simp [stamp_named.j1] at h, fun _ _ r h => by simp [stamp_named.j2] at h, fun _ _ r h => by simp [stamp_named.j3] at h⟩
  | k + 1 => by
    obtain ⟨ih0, ih1, ih2, ih3⟩ := stamp_named.mono_l k
    refine ⟨?_, ?_, ?_, ?_⟩
    · intro y0 y1
      unfold stamp_named.j0
      repeat' first
      | (with_reducible exact ih0 _ _)
      | (with_reducible exact ih1 _ _)
      | (with_reducible exact ih2 _ _)
      | (with_reducible exact ih3 _ _)
      | (with_reducible exact LeO.refl _)
      | (with_reducible exact LeO.none _)
      | (with_reducible refine LeO.ite ?_ ?_)
      | (with_reducible refine LeO.bind ?_ (fun _ => ?_))
      | exact ih0 _ _
      | exact ih1 _ _
      | exact ih2 _ _
      | exact ih3 _ _
      | exact LeO.none _
      | refine LeO.ite ?_ ?_
      | refine LeO.bind ?_ (fun _ => ?_)
    · intro y0 y1
      unfold stamp_named.j1
      repeat' first
      | (with_reducible exact ih0 _ _)
      | (with_reducible exact ih1 _ _)
      | (with_reducible exact ih2 _ _)
      | (with_reducible exact ih3 _ _)
      | (with_reducible exact LeO.refl _)
      | (with_reducible exact LeO.none _)
      | (with_reducible refine LeO.ite ?_ ?_)
      | (with_reducible refine LeO.bind ?_ (fun _ => ?_))
      | exact ih0 _ _
      | exact ih1 _ _
      | exact ih2 _ _
      | exact ih3 _ _
      | exact LeO.none _
      | refine LeO.ite ?_ ?_
      | refine LeO.bind ?_ (fun _ => ?_)
    · intro y0 y1
      unfold stamp_named.j2
      repeat' first
      | (with_reducible exact ih0 _ _)
      | (with_reducible exact ih1 _ _)
      | (with_reducible exact ih2 _ _)
      | (with_reducible exact ih3 _ _)
      | (with_reducible exact LeO.refl _)
      | (with_reducible exact LeO.none _)
      | (with_reducible refine LeO.ite ?_ ?_)
      | (with_reducible refine LeO.bind ?_ (fun _ => ?_))
      | exact ih0 _ _
      | exact ih1 _ _
      | exact ih2 _ _
      | exact ih3 _ _
      | exact LeO.none _
      | refine LeO.ite ?_ ?_
      | refine LeO.bind ?_ (fun _ => ?_)
    · intro y0 y1
      unfold stamp_named.j3
      repeat' first
      | (with_reducible exact ih0 _ _)
      | (with_reducible exact ih1 _ _)
      | (with_reducible exact ih2 _ _)
      | (with_reducible exact ih3 _ _)
      | (with_reducible exact LeO.refl _)
      | (with_reducible exact LeO.none _)
      | (with_reducible refine LeO.ite ?_ ?_)
      | (with_reducible refine LeO.bind ?_ (fun _ => ?_))
      | exact ih0 _ _
      | exact ih1 _ _
      | exact ih2 _ _
      | exact ih3 _ _
      | exact LeO.none _
      | refine LeO.ite ?_ ?_
      | refine LeO.bind ?_ (fun _ => ?_)
theorem stamp_named.mono : ∀ a0 k, LeO (stamp_named.f k a0) (stamp_named.f (k + 1) a0) := by
  intro a0 k
  obtain ⟨ih0, ih1, ih2, ih3⟩ := stamp_named.mono_l k
  unfold stamp_named.f
  repeat' first
      | (with_reducible exact ih0 _ _)
      | (with_reducible exact ih1 _ _)
      | (with_reducible exact ih2 _ _)
      | (with_reducible exact ih3 _ _)
      | (with_reducible exact LeO.refl _)
      | (with_reducible exact LeO.none _)
      | (with_reducible refine LeO.ite ?_ ?_)
      | (with_reducible refine LeO.bind ?_ (fun _ => ?_))
      | exact ih0 _ _
      | exact ih1 _ _
      | exact ih2 _ _
      | exact ih3 _ _
      | exact LeO.none _
      | refine LeO.ite ?_ ?_
      | refine LeO.bind ?_ (fun _ => ?_)
set_option maxHeartbeats 8000000 in
set_option maxRecDepth 100000 in
theorem stamp_named.calls (k : Nat) (a0 : ByteArray) (r : Int) (w : World) (h : stamp_named.f k a0 = some r) :
    Calls Tryd.prog 37 #[.string a0] w fun e w' => e = .returned (.int .i64 r) ∧ Below w.heap.size w w' := by
  have HB := Aside0.mk (Below.refl w.heap.size w)
  have H : ((text_Lower.f a0).bind fun t144 => (if t144.toList = ([103, 109, 116] : List UInt8) then (stamp_named.j0 k t144 (t144.toList == ([103, 109, 116] : List UInt8))) else (if t144.toList = ([117, 116] : List UInt8) then (stamp_named.j0 k t144 (t144.toList == ([117, 116] : List UInt8))) else (if t144.toList = ([117, 116, 99] : List UInt8) then (stamp_named.j0 k t144 (t144.toList == ([117, 116, 99] : List UInt8))) else (stamp_named.j0 k t144 (t144.toList == ([122] : List UInt8))))))) = some r := h
  clear h
  replace H := Option.bind_eq_some_iff.mp H
  obtain ⟨t144, A20, H⟩ := H
  replace H : (if t144.toList = ([103, 109, 116] : List UInt8) then (stamp_named.j0 k t144 (t144.toList == ([103, 109, 116] : List UInt8))) else (if t144.toList = ([117, 116] : List UInt8) then (stamp_named.j0 k t144 (t144.toList == ([117, 116] : List UInt8))) else (if t144.toList = ([117, 116, 99] : List UInt8) then (stamp_named.j0 k t144 (t144.toList == ([117, 116, 99] : List UInt8))) else (stamp_named.j0 k t144 (t144.toList == ([122] : List UInt8)))))) = some r := H
  have A2 := Aside0.mk A20
  clear A20
  have HC3 := Aside0.mk H
  clear H
  go_enter Tryd.func37, Tryd.ntmps37
  go_upto_if 5 with (first | ((with_reducible refine gate_callee (f := 34) rfl ?_); refine goesL_ (some 4) rfl rfl Tryd.func34 (by kernel_rfl) rfl #[.string a0] rfl (by (try simp only [List.map_toArray, List.map_cons, List.map_nil]); first | done | rfl | (simp only [List.length_drop, List.length_take]; rfl)) ?_; (with_reducible refine (text_Lower.calls a0 t144 _ A2.out).mono ?_); rintro e w4 ⟨rfl, hb⟩; refine ⟨_, rfl, ?_⟩; have n0_ := Aside0.mk (below_step (below_y HB.out) hb); clear HB; have HB := n0_; clear n0_; (try clear hb); (try clear hb2); (try clear hk); (try clear hi)))
  (try simp only [Act.put, List.setIfInBounds_toArray, List.set_cons_zero, List.set_cons_succ])
  go_cut [5] (fun v5 wc => ∃ (kq : Nat) (x5_2 : Bool), v5 = .bool x5_2 ∧ Aside0 (stamp_named.j0 kq t144 x5_2 = some r) ∧ Aside0 (kq ≤ k) ∧ Aside0 (Below w.heap.size w wc))
  case first =>
    have H := HC3.out
    clear HC3
    by_cases c5 : t144.toList = ([103, 109, 116] : List UInt8)
    · rw [if_pos c5] at H
      have c5b0 : (t144.toList == ([103, 109, 116] : List UInt8)) = true := beq_iff_eq.mpr c5
      have c5b1 : (t144.toList != ([103, 109, 116] : List UInt8)) = false := bne_eq_false_iff_eq.mpr c5
      clear c5
      (first | rw [c5b0] | (simp only [i64_w, i32_w]; rw [c5b0]) | skip)
      as_aux_lemma =>
        have H' := Aside0.mk H
        clear H
        go_wp2
        go_meet
        case rel => exact ⟨_, ((t144.toList == ([103, 109, 116] : List UInt8))), (by first | rfl | (simp; done) | (simp [*]; done)), H', ⟨by first | omega | exact Nat.le_refl _⟩, ⟨by repeat (first | (with_reducible first | exact HB.out | apply below_alloc | apply pw_below_drewN | apply below_drew1) | exact HB.out)⟩⟩
    · rw [if_neg c5] at H
      have c5b0 : (t144.toList == ([103, 109, 116] : List UInt8)) = false := beq_eq_false_iff_ne.mpr c5
      have c5b1 : (t144.toList != ([103, 109, 116] : List UInt8)) = true := bne_iff_ne.mpr c5
      (first | rw [c5b0] | (simp only [i64_w, i32_w]; rw [c5b0]) | skip)
      by_cases c6 : t144.toList = ([117, 116] : List UInt8)
      · rw [if_pos c6] at H
        have c6b0 : (t144.toList == ([117, 116] : List UInt8)) = true := beq_iff_eq.mpr c6
        have c6b1 : (t144.toList != ([117, 116] : List UInt8)) = false := bne_eq_false_iff_eq.mpr c6
        clear c6
        as_aux_lemma =>
          have H' := Aside0.mk H
          clear H
          go_wp2
          go_meet
          case rel => exact ⟨_, ((t144.toList == ([117, 116] : List UInt8))), (by first | rfl | (simp; done) | (simp [*]; done)), H', ⟨by first | omega | exact Nat.le_refl _⟩, ⟨by repeat (first | (with_reducible first | exact HB.out | apply below_alloc | apply pw_below_drewN | apply below_drew1) | exact HB.out)⟩⟩
      · rw [if_neg c6] at H
        have c6b0 : (t144.toList == ([117, 116] : List UInt8)) = false := beq_eq_false_iff_ne.mpr c6
        have c6b1 : (t144.toList != ([117, 116] : List UInt8)) = true := bne_iff_ne.mpr c6
        by_cases c7 : t144.toList = ([117, 116, 99] : List UInt8)
        · rw [if_pos c7] at H
          have c7b0 : (t144.toList == ([117, 116, 99] : List UInt8)) = true := beq_iff_eq.mpr c7
          have c7b1 : (t144.toList != ([117, 116, 99] : List UInt8)) = false := bne_eq_false_iff_eq.mpr c7
          clear c7
          as_aux_lemma =>
            have H' := Aside0.mk H
            clear H
            go_wp2
            go_meet
            case rel => exact ⟨_, ((t144.toList == ([117, 116, 99] : List UInt8))), (by first | rfl | (simp; done) | (simp [*]; done)), H', ⟨by first | omega | exact Nat.le_refl _⟩, ⟨by repeat (first | (with_reducible first | exact HB.out | apply below_alloc | apply pw_below_drewN | apply below_drew1) | exact HB.out)⟩⟩
        · rw [if_neg c7] at H
          have c7b0 : (t144.toList == ([117, 116, 99] : List UInt8)) = false := beq_eq_false_iff_ne.mpr c7
          have c7b1 : (t144.toList != ([117, 116, 99] : List UInt8)) = true := bne_iff_ne.mpr c7
          as_aux_lemma =>
            have H' := Aside0.mk H
            clear H
            go_wp2
            go_meet
            case rel => exact ⟨_, ((t144.toList == ([122] : List UInt8))), (by first | rfl | (simp; done) | (simp [*]; done)), H', ⟨by first | omega | exact Nat.le_refl _⟩, ⟨by repeat (first | (with_reducible first | exact HB.out | apply below_alloc | apply pw_below_drewN | apply below_drew1) | exact HB.out)⟩⟩
  case rest =>
    clear HC3
    try clear p2
    try clear c3
    try clear c5
    try clear c5b0
    try clear c5b1
    try clear c6
    try clear c6b0
    try clear c6b1
    try clear c7
    try clear c7b0
    try clear c7b1
    obtain ⟨kq, x5_2, rfl, HA, HJ2, HB⟩ := hcut
    cases kq with
    | zero => exact absurd HA.out (by simp [stamp_named.j0])
    | succ kj2 =>
      have H := HA.out
      clear HA
      simp only [stamp_named.j0] at H
      by_cases c8 : x5_2 = true
      · subst c8
        have H1 : (some 0) = some r := by rw [if_pos rfl] at H; exact H
        clear H
        have H := H1
        clear H1
        as_aux_lemma =>
          obtain rfl := Option.some.inj H
          go_wp2
          go_ret
          exact ⟨by first | rfl | (simp [errW_none, errW_some] <;> rfl) | (simp [*, errW_none, errW_some] <;> rfl), by repeat (first | (with_reducible first | exact HB.out | apply below_alloc | apply pw_below_drewN | apply below_drew1) | exact HB.out)⟩
      · replace c8 := Bool.eq_false_iff.mpr c8
        subst c8
        have H1 : (if t144.toList = ([101, 100, 116] : List UInt8) then (some 4) else (if t144.toList = ([101, 115, 116] : List UInt8) then (stamp_named.j1 kj2 t144 (t144.toList == ([101, 115, 116] : List UInt8))) else (stamp_named.j1 kj2 t144 (t144.toList == ([99, 100, 116] : List UInt8))))) = some r := by rw [if_neg (show ¬ (false = true) by decide)] at H; exact H
        clear H
        have H := H1
        clear H1
        by_cases c9 : t144.toList = ([101, 100, 116] : List UInt8)
        · rw [if_pos c9] at H
          have c9b0 : (t144.toList == ([101, 100, 116] : List UInt8)) = true := beq_iff_eq.mpr c9
          have c9b1 : (t144.toList != ([101, 100, 116] : List UInt8)) = false := bne_eq_false_iff_eq.mpr c9
          clear c9
          as_aux_lemma =>
            obtain rfl := Option.some.inj H
            go_wp2
            go_ret
            exact ⟨by first | rfl | (simp [errW_none, errW_some] <;> rfl) | (simp [*, errW_none, errW_some] <;> rfl), by repeat (first | (with_reducible first | exact HB.out | apply below_alloc | apply pw_below_drewN | apply below_drew1) | exact HB.out)⟩
        · rw [if_neg c9] at H
          have c9b0 : (t144.toList == ([101, 100, 116] : List UInt8)) = false := beq_eq_false_iff_ne.mpr c9
          have c9b1 : (t144.toList != ([101, 100, 116] : List UInt8)) = true := bne_iff_ne.mpr c9
          have HC10 := Aside0.mk H
          clear H
          go_upto_if 12 with (fail)
          go_cut [12] (fun v12 wc => ∃ (kq : Nat) (x12_9 : Bool), v12 = .bool x12_9 ∧ Aside0 (stamp_named.j1 kq t144 x12_9 = some r) ∧ Aside0 (kq ≤ kj2) ∧ Aside0 (Below w.heap.size w wc))
          case first =>
            have H := HC10.out
            clear HC10
            by_cases c11 : t144.toList = ([101, 115, 116] : List UInt8)
            · rw [if_pos c11] at H
              have c11b0 : (t144.toList == ([101, 115, 116] : List UInt8)) = true := beq_iff_eq.mpr c11
              have c11b1 : (t144.toList != ([101, 115, 116] : List UInt8)) = false := bne_eq_false_iff_eq.mpr c11
              clear c11
              (first | rw [c11b0] | (simp only [i64_w, i32_w]; rw [c11b0]) | skip)
              as_aux_lemma =>
                have H' := Aside0.mk H
                clear H
                go_wp2
                go_meet
                case rel => exact ⟨_, ((t144.toList == ([101, 115, 116] : List UInt8))), (by first | rfl | (simp; done) | (simp [*]; done)), H', ⟨by have := HJ2.out; first | omega | exact Nat.le_refl _⟩, ⟨by repeat (first | (with_reducible first | exact HB.out | apply below_alloc | apply pw_below_drewN | apply below_drew1) | exact HB.out)⟩⟩
            · rw [if_neg c11] at H
              have c11b0 : (t144.toList == ([101, 115, 116] : List UInt8)) = false := beq_eq_false_iff_ne.mpr c11
              have c11b1 : (t144.toList != ([101, 115, 116] : List UInt8)) = true := bne_iff_ne.mpr c11
              (first | rw [c11b0] | (simp only [i64_w, i32_w]; rw [c11b0]) | skip)
              as_aux_lemma =>
                have H' := Aside0.mk H
                clear H
                go_wp2
                go_meet
                case rel => exact ⟨_, ((t144.toList == ([99, 100, 116] : List UInt8))), (by first | rfl | (simp; done) | (simp [*]; done)), H', ⟨by have := HJ2.out; first | omega | exact Nat.le_refl _⟩, ⟨by repeat (first | (with_reducible first | exact HB.out | apply below_alloc | apply pw_below_drewN | apply below_drew1) | exact HB.out)⟩⟩
          case rest =>
            clear HC10
            try clear c1
            try clear p2
            try clear c3
            try clear c5
            try clear c5b0
            try clear c5b1
            try clear c6
            try clear c6b0
            try clear c6b1
            try clear c7
            try clear c7b0
            try clear c7b1
            try clear c8
            try clear c9
            try clear c9b0
            try clear c9b1
            try clear c11
            try clear c11b0
            try clear c11b1
            try clear p2
            obtain ⟨kq, x12_9, rfl, HA, HJ9, HB⟩ := hcut
            cases kq with
            | zero => exact absurd HA.out (by simp [stamp_named.j1])
            | succ kj9 =>
              have H := HA.out
              clear HA
              simp only [stamp_named.j1] at H
              by_cases c12 : x12_9 = true
              · subst c12
                have H1 : (some 5) = some r := by rw [if_pos rfl] at H; exact H
                clear H
                have H := H1
                clear H1
                as_aux_lemma =>
                  obtain rfl := Option.some.inj H
                  go_wp2
                  go_ret
                  exact ⟨by first | rfl | (simp [errW_none, errW_some] <;> rfl) | (simp [*, errW_none, errW_some] <;> rfl), by repeat (first | (with_reducible first | exact HB.out | apply below_alloc | apply pw_below_drewN | apply below_drew1) | exact HB.out)⟩
              · replace c12 := Bool.eq_false_iff.mpr c12
                subst c12
                have H1 : (if t144.toList = ([99, 115, 116] : List UInt8) then (stamp_named.j2 kj9 t144 (t144.toList == ([99, 115, 116] : List UInt8))) else (stamp_named.j2 kj9 t144 (t144.toList == ([109, 100, 116] : List UInt8)))) = some r := by rw [if_neg (show ¬ (false = true) by decide)] at H; exact H
                clear H
                have H := H1
                clear H1
                have HC13 := Aside0.mk H
                clear H
                go_upto_if 15 with (fail)
                go_cut [15] (fun v15 wc => ∃ (kq : Nat) (x15_12 : Bool), v15 = .bool x15_12 ∧ Aside0 (stamp_named.j2 kq t144 x15_12 = some r) ∧ Aside0 (kq ≤ kj9) ∧ Aside0 (Below w.heap.size w wc))
                case first =>
                  have H := HC13.out
                  clear HC13
                  by_cases c14 : t144.toList = ([99, 115, 116] : List UInt8)
                  · rw [if_pos c14] at H
                    have c14b0 : (t144.toList == ([99, 115, 116] : List UInt8)) = true := beq_iff_eq.mpr c14
                    have c14b1 : (t144.toList != ([99, 115, 116] : List UInt8)) = false := bne_eq_false_iff_eq.mpr c14
                    clear c14
                    (first | rw [c14b0] | (simp only [i64_w, i32_w]; rw [c14b0]) | skip)
                    as_aux_lemma =>
                      have H' := Aside0.mk H
                      clear H
                      go_wp2
                      go_meet
                      case rel => exact ⟨_, ((t144.toList == ([99, 115, 116] : List UInt8))), (by first | rfl | (simp; done) | (simp [*]; done)), H', ⟨by have := HJ2.out; have := HJ9.out; first | omega | exact Nat.le_refl _⟩, ⟨by repeat (first | (with_reducible first | exact HB.out | apply below_alloc | apply pw_below_drewN | apply below_drew1) | exact HB.out)⟩⟩
                  · rw [if_neg c14] at H
                    have c14b0 : (t144.toList == ([99, 115, 116] : List UInt8)) = false := beq_eq_false_iff_ne.mpr c14
                    have c14b1 : (t144.toList != ([99, 115, 116] : List UInt8)) = true := bne_iff_ne.mpr c14
                    (first | rw [c14b0] | (simp only [i64_w, i32_w]; rw [c14b0]) | skip)
                    as_aux_lemma =>
                      have H' := Aside0.mk H
                      clear H
                      go_wp2
                      go_meet
                      case rel => exact ⟨_, ((t144.toList == ([109, 100, 116] : List UInt8))), (by first | rfl | (simp; done) | (simp [*]; done)), H', ⟨by have := HJ2.out; have := HJ9.out; first | omega | exact Nat.le_refl _⟩, ⟨by repeat (first | (with_reducible first | exact HB.out | apply below_alloc | apply pw_below_drewN | apply below_drew1) | exact HB.out)⟩⟩
                case rest =>
                  clear HC13
                  try clear c1
                  try clear p2
                  try clear c3
                  try clear c5
                  try clear c5b0
                  try clear c5b1
                  try clear c6
                  try clear c6b0
                  try clear c6b1
                  try clear c7
                  try clear c7b0
                  try clear c7b1
                  try clear c8
                  try clear c9
                  try clear c9b0
                  try clear c9b1
                  try clear c11
                  try clear c11b0
                  try clear c11b1
                  try clear c12
                  try clear c14
                  try clear c14b0
                  try clear c14b1
                  try clear p2
                  obtain ⟨kq, x15_12, rfl, HA, HJ12, HB⟩ := hcut
                  cases kq with
                  | zero => exact absurd HA.out (by simp [stamp_named.j2])
                  | succ kj12 =>
                    have H := HA.out
                    clear HA
                    simp only [stamp_named.j2] at H
                    by_cases c15 : x15_12 = true
                    · subst c15
                      have H1 : (some 6) = some r := by rw [if_pos rfl] at H; exact H
                      clear H
                      have H := H1
                      clear H1
                      as_aux_lemma =>
                        obtain rfl := Option.some.inj H
                        go_wp2
                        go_ret
                        exact ⟨by first | rfl | (simp [errW_none, errW_some] <;> rfl) | (simp [*, errW_none, errW_some] <;> rfl), by repeat (first | (with_reducible first | exact HB.out | apply below_alloc | apply pw_below_drewN | apply below_drew1) | exact HB.out)⟩
                    · replace c15 := Bool.eq_false_iff.mpr c15
                      subst c15
                      have H1 : (if t144.toList = ([109, 115, 116] : List UInt8) then (stamp_named.j3 kj12 t144 (t144.toList == ([109, 115, 116] : List UInt8))) else (stamp_named.j3 kj12 t144 (t144.toList == ([112, 100, 116] : List UInt8)))) = some r := by rw [if_neg (show ¬ (false = true) by decide)] at H; exact H
                      clear H
                      have H := H1
                      clear H1
                      have HC16 := Aside0.mk H
                      clear H
                      go_upto_if 18 with (fail)
                      go_cut [18] (fun v18 wc => ∃ (kq : Nat) (x18_15 : Bool), v18 = .bool x18_15 ∧ Aside0 (stamp_named.j3 kq t144 x18_15 = some r) ∧ Aside0 (kq ≤ kj12) ∧ Aside0 (Below w.heap.size w wc))
                      case first =>
                        have H := HC16.out
                        clear HC16
                        by_cases c17 : t144.toList = ([109, 115, 116] : List UInt8)
                        · rw [if_pos c17] at H
                          have c17b0 : (t144.toList == ([109, 115, 116] : List UInt8)) = true := beq_iff_eq.mpr c17
                          have c17b1 : (t144.toList != ([109, 115, 116] : List UInt8)) = false := bne_eq_false_iff_eq.mpr c17
                          clear c17
                          (first | rw [c17b0] | (simp only [i64_w, i32_w]; rw [c17b0]) | skip)
                          as_aux_lemma =>
                            have H' := Aside0.mk H
                            clear H
                            go_wp2
                            go_meet
                            case rel => exact ⟨_, ((t144.toList == ([109, 115, 116] : List UInt8))), (by first | rfl | (simp; done) | (simp [*]; done)), H', ⟨by have := HJ2.out; have := HJ9.out; have := HJ12.out; first | omega | exact Nat.le_refl _⟩, ⟨by repeat (first | (with_reducible first | exact HB.out | apply below_alloc | apply pw_below_drewN | apply below_drew1) | exact HB.out)⟩⟩
                        · rw [if_neg c17] at H
                          have c17b0 : (t144.toList == ([109, 115, 116] : List UInt8)) = false := beq_eq_false_iff_ne.mpr c17
                          have c17b1 : (t144.toList != ([109, 115, 116] : List UInt8)) = true := bne_iff_ne.mpr c17
                          (first | rw [c17b0] | (simp only [i64_w, i32_w]; rw [c17b0]) | skip)
                          as_aux_lemma =>
                            have H' := Aside0.mk H
                            clear H
                            go_wp2
                            go_meet
                            case rel => exact ⟨_, ((t144.toList == ([112, 100, 116] : List UInt8))), (by first | rfl | (simp; done) | (simp [*]; done)), H', ⟨by have := HJ2.out; have := HJ9.out; have := HJ12.out; first | omega | exact Nat.le_refl _⟩, ⟨by repeat (first | (with_reducible first | exact HB.out | apply below_alloc | apply pw_below_drewN | apply below_drew1) | exact HB.out)⟩⟩
                      case rest =>
                        clear HC16
                        try clear c1
                        try clear p2
                        try clear c3
                        try clear c5
                        try clear c5b0
                        try clear c5b1
                        try clear c6
                        try clear c6b0
                        try clear c6b1
                        try clear c7
                        try clear c7b0
                        try clear c7b1
                        try clear c8
                        try clear c9
                        try clear c9b0
                        try clear c9b1
                        try clear c11
                        try clear c11b0
                        try clear c11b1
                        try clear c12
                        try clear c14
                        try clear c14b0
                        try clear c14b1
                        try clear c15
                        try clear c17
                        try clear c17b0
                        try clear c17b1
                        try clear p2
                        obtain ⟨kq, x18_15, rfl, HA, HJ15, HB⟩ := hcut
                        cases kq with
                        | zero => exact absurd HA.out (by simp [stamp_named.j3])
                        | succ kj15 =>
                          have H := HA.out
                          clear HA
                          simp only [stamp_named.j3] at H
                          by_cases c18 : x18_15 = true
                          · subst c18
                            have H1 : (some 7) = some r := by rw [if_pos rfl] at H; exact H
                            clear H
                            have H := H1
                            clear H1
                            as_aux_lemma =>
                              obtain rfl := Option.some.inj H
                              go_wp2
                              go_ret
                              exact ⟨by first | rfl | (simp [errW_none, errW_some] <;> rfl) | (simp [*, errW_none, errW_some] <;> rfl), by repeat (first | (with_reducible first | exact HB.out | apply below_alloc | apply pw_below_drewN | apply below_drew1) | exact HB.out)⟩
                          · replace c18 := Bool.eq_false_iff.mpr c18
                            subst c18
                            have H1 : (if t144.toList = ([112, 115, 116] : List UInt8) then (some 8) else (some (-1))) = some r := by rw [if_neg (show ¬ (false = true) by decide)] at H; exact H
                            clear H
                            have H := H1
                            clear H1
                            by_cases c19 : t144.toList = ([112, 115, 116] : List UInt8)
                            · rw [if_pos c19] at H
                              have c19b0 : (t144.toList == ([112, 115, 116] : List UInt8)) = true := beq_iff_eq.mpr c19
                              have c19b1 : (t144.toList != ([112, 115, 116] : List UInt8)) = false := bne_eq_false_iff_eq.mpr c19
                              clear c19
                              as_aux_lemma =>
                                obtain rfl := Option.some.inj H
                                go_wp2
                                go_ret
                                exact ⟨by first | rfl | (simp [errW_none, errW_some] <;> rfl) | (simp [*, errW_none, errW_some] <;> rfl), by repeat (first | (with_reducible first | exact HB.out | apply below_alloc | apply pw_below_drewN | apply below_drew1) | exact HB.out)⟩
                            · rw [if_neg c19] at H
                              have c19b0 : (t144.toList == ([112, 115, 116] : List UInt8)) = false := beq_eq_false_iff_ne.mpr c19
                              have c19b1 : (t144.toList != ([112, 115, 116] : List UInt8)) = true := bne_iff_ne.mpr c19
                              as_aux_lemma =>
                                obtain rfl := Option.some.inj H
                                go_wp2
                                go_ret
                                exact ⟨by first | rfl | (simp [errW_none, errW_some] <;> rfl) | (simp [*, errW_none, errW_some] <;> rfl), by repeat (first | (with_reducible first | exact HB.out | apply below_alloc | apply pw_below_drewN | apply below_drew1) | exact HB.out)⟩

end Go.Proofs.YtghdkpcpgpfgcaaDoor.XSta
