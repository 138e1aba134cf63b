-- By a program of this work (xprint.py) over the translation; Lean checks it.
import Derived.Test.YtghdkpcpgpfgcaaDoorXStax0
import Derived.Test.YtghdkpcpgpfgcaaDoorXStax29
namespace Go.Proofs.YtghdkpcpgpfgcaaDoor.XSta
open Go.RowKit Go.Proofs.YtghdkpcpgpfgcaaDoorW.PrintWords Go.Proofs.YtghdkpcpgpfgcaaDoorW.PrintLast Go.Proofs.YtghdkpcpgpfgcaaDoorW.PrintMore
attribute [local go_sem] max2_int min2_int max_two min_two max_three min_three max_four min_four   -- for this text's walks alone
set_option linter.unusedVariables false
set_option linter.unusedSimpArgs false

/-! ### stamp_name: function 21 -/
def stamp_name.f (a0 : ByteArray) (a1 : Int) : Option (ByteArray) := if 0 ≤ (wrap64 (4 * a1)) then (if (wrap64 (4 * a1)) ≤ (wrap64 ((wrap64 (4 * a1)) + 3)) then (if (wrap64 ((wrap64 (4 * a1)) + 3)) ≤ (a0.size : Int) then (if 0 ≤ 1 then (if 1 ≤ ((a0.extract ((wrap64 (4 * a1)) : Int).toNat ((wrap64 ((wrap64 (4 * a1)) + 3)) : Int).toNat).size : Int) then ((strings_ToUpper.f ((a0.extract ((wrap64 (4 * a1)) : Int).toNat ((wrap64 ((wrap64 (4 * a1)) + 3)) : Int).toNat).extract 0 1)).bind fun t208 => (if t208.size + ((a0.extract ((wrap64 (4 * a1)) : Int).toNat ((wrap64 ((wrap64 (4 * a1)) + 3)) : Int).toNat).extract 1 (a0.extract ((wrap64 (4 * a1)) : Int).toNat ((wrap64 ((wrap64 (4 * a1)) + 3)) : Int).toNat).size).size ≤ 9223372036854775807 then (some (t208 ++ ((a0.extract ((wrap64 (4 * a1)) : Int).toNat ((wrap64 ((wrap64 (4 * a1)) + 3)) : Int).toNat).extract 1 (a0.extract ((wrap64 (4 * a1)) : Int).toNat ((wrap64 ((wrap64 (4 * a1)) + 3)) : Int).toNat).size))) else (none))) else (none)) else (none)) else (none)) else (none)) else (none)
set_option maxHeartbeats 8000000 in
set_option maxRecDepth 100000 in
theorem stamp_name.calls (a0 : ByteArray) (a1 : Int) (r : ByteArray) (w : World) (h : stamp_name.f a0 a1 = some r) :
    Calls Tryd.prog 21 #[.string a0, .int .i64 a1] w fun e w' => e = .returned (.string r) ∧ Below w.heap.size w w' := by
  have HB := Aside0.mk (Below.refl w.heap.size w)
  have H : (if 0 ≤ (wrap64 (4 * a1)) then (if (wrap64 (4 * a1)) ≤ (wrap64 ((wrap64 (4 * a1)) + 3)) then (if (wrap64 ((wrap64 (4 * a1)) + 3)) ≤ (a0.size : Int) then (if 0 ≤ 1 then (if 1 ≤ ((a0.extract ((wrap64 (4 * a1)) : Int).toNat ((wrap64 ((wrap64 (4 * a1)) + 3)) : Int).toNat).size : Int) then ((strings_ToUpper.f ((a0.extract ((wrap64 (4 * a1)) : Int).toNat ((wrap64 ((wrap64 (4 * a1)) + 3)) : Int).toNat).extract 0 1)).bind fun t208 => (if t208.size + ((a0.extract ((wrap64 (4 * a1)) : Int).toNat ((wrap64 ((wrap64 (4 * a1)) + 3)) : Int).toNat).extract 1 (a0.extract ((wrap64 (4 * a1)) : Int).toNat ((wrap64 ((wrap64 (4 * a1)) + 3)) : Int).toNat).size).size ≤ 9223372036854775807 then (some (t208 ++ ((a0.extract ((wrap64 (4 * a1)) : Int).toNat ((wrap64 ((wrap64 (4 * a1)) + 3)) : Int).toNat).extract 1 (a0.extract ((wrap64 (4 * a1)) : Int).toNat ((wrap64 ((wrap64 (4 * a1)) + 3)) : Int).toNat).size))) else (none))) else (none)) else (none)) else (none)) else (none)) else (none)) = some r := h
  clear h
  obtain ⟨ji3, hji3⟩ : ∃ j_ : Int, (wrap64 (4 * a1)) = j_ := ⟨_, rfl⟩
  replace H : (if 0 ≤ (ji3) then (if (ji3) ≤ (wrap64 ((ji3) + 3)) then (if (wrap64 ((ji3) + 3)) ≤ (a0.size : Int) then (if 0 ≤ 1 then (if 1 ≤ ((a0.extract ((ji3) : Int).toNat ((wrap64 ((ji3) + 3)) : Int).toNat).size : Int) then ((strings_ToUpper.f ((a0.extract ((ji3) : Int).toNat ((wrap64 ((ji3) + 3)) : Int).toNat).extract 0 1)).bind fun t208 => (if t208.size + ((a0.extract ((ji3) : Int).toNat ((wrap64 ((ji3) + 3)) : Int).toNat).extract 1 (a0.extract ((ji3) : Int).toNat ((wrap64 ((ji3) + 3)) : Int).toNat).size).size ≤ 9223372036854775807 then (some (t208 ++ ((a0.extract ((ji3) : Int).toNat ((wrap64 ((ji3) + 3)) : Int).toNat).extract 1 (a0.extract ((ji3) : Int).toNat ((wrap64 ((ji3) + 3)) : Int).toNat).size))) else (none))) else (none)) else (none)) else (none)) else (none)) else (none)) = some r := by first | (rw [hji3] at H; exact H) | (simp only [hji3] at H ⊢; exact H)
  have hji3w : (IntKind.i64.wrap (4 * a1)) = ji3 := (i64_w _).trans hji3
  by_cases c4 : 0 ≤ (ji3)
  · rw [if_pos c4] at H
    have c4b0 := eq_true c4
    have c4b1 : decide (0 ≤ (ji3)) = true := decide_eq_true c4
    clear c4
    by_cases c5 : (ji3) ≤ (wrap64 ((ji3) + 3))
    · rw [if_pos c5] at H
      have c5b0 := eq_true c5
      have c5b1 : decide ((ji3) ≤ (wrap64 ((ji3) + 3))) = true := decide_eq_true c5
      by_cases c6 : (wrap64 ((ji3) + 3)) ≤ (a0.size : Int)
      · rw [if_pos c6] at H
        have c6b0 := eq_true c6
        have c6b1 : decide ((wrap64 ((ji3) + 3)) ≤ (a0.size : Int)) = true := decide_eq_true c6
        by_cases c7 : 0 ≤ 1
        · rw [if_pos c7] at H
          have c7b0 := eq_true c7
          have c7b1 : decide (0 ≤ 1) = true := decide_eq_true c7
          clear c7
          by_cases c8 : 1 ≤ ((a0.extract ((ji3) : Int).toNat ((wrap64 ((ji3) + 3)) : Int).toNat).size : Int)
          · rw [if_pos c8] at H
            have c8b0 := eq_true c8
            have c8b1 : decide (1 ≤ ((a0.extract ((ji3) : Int).toNat ((wrap64 ((ji3) + 3)) : Int).toNat).size : Int)) = true := decide_eq_true c8
            have c8s : (a0.extract (ji3).toNat (wrap64 (ji3 + 3)).toNat).size = (wrap64 (ji3 + 3)).toNat - (ji3).toNat := by rw [ByteArray.size_extract]; omega
            have c8z : (1 ≤ (((wrap64 (ji3 + 3)).toNat - ji3.toNat : Nat) : Int)) = True := eq_true (by have h8 := c8; rw [ByteArray.size_extract] at h8; omega)
            replace H := Option.bind_eq_some_iff.mp H
            obtain ⟨t208, A90, H⟩ := H
            replace H : (if t208.size + ((a0.extract ((ji3) : Int).toNat ((wrap64 ((ji3) + 3)) : Int).toNat).extract 1 (a0.extract ((ji3) : Int).toNat ((wrap64 ((ji3) + 3)) : Int).toNat).size).size ≤ 9223372036854775807 then (some (t208 ++ ((a0.extract ((ji3) : Int).toNat ((wrap64 ((ji3) + 3)) : Int).toNat).extract 1 (a0.extract ((ji3) : Int).toNat ((wrap64 ((ji3) + 3)) : Int).toNat).size))) else (none)) = some r := H
            have A9 := Aside0.mk A90
            clear A90
            have c10b0 := eq_true (of_decide_eq_true (by first | (with_reducible assumption) | assumption) : 1 ≤ ((a0.extract ((ji3) : Int).toNat ((wrap64 ((ji3) + 3)) : Int).toNat).size : Int))
            by_cases c11 : t208.size + ((a0.extract ((ji3) : Int).toNat ((wrap64 ((ji3) + 3)) : Int).toNat).extract 1 (a0.extract ((ji3) : Int).toNat ((wrap64 ((ji3) + 3)) : Int).toNat).size).size ≤ 9223372036854775807
            · rw [if_pos c11] at H
              have c11b0 := eq_true c11
              have c11z : (9223372036854775807 < t208.size + ((wrap64 (ji3 + 3)).toNat - ji3.toNat - 1)) = False := eq_false (by have h8 := c11; simp only [ByteArray.size_extract] at h8; omega)
              have c11b1 : decide (t208.size + ((a0.extract ((ji3) : Int).toNat ((wrap64 ((ji3) + 3)) : Int).toNat).extract 1 (a0.extract ((ji3) : Int).toNat ((wrap64 ((ji3) + 3)) : Int).toNat).size).size ≤ 9223372036854775807) = true := decide_eq_true c11
              try have c11b2 : (9223372036854775807 < t208.size + ((a0.extract ((ji3) : Int).toNat ((wrap64 ((ji3) + 3)) : Int).toNat).extract 1 (a0.extract ((ji3) : Int).toNat ((wrap64 ((ji3) + 3)) : Int).toNat).size).size) = False := eq_false (Nat.not_lt.2 c11)
              obtain rfl := Option.some.inj H
              as_aux_lemma =>
                go_enter Tryd.func21, Tryd.ntmps21
                try go_wp2
                have n0_ := Aside0.mk (below_drew1 HB.out)
                clear HB
                have HB := n0_
                clear n0_
                refine start_ (n := 7) (S := fun w' => True) (ds := []) #[false, false, false, false, false, false, false] (by kernel_rfl) rfl rfl trivial (fun hHeld => ?_)
                generalize w.drew = w12 at HB hHeld ⊢
                refine pure_ (i := 0) (N := some 13) (v := ?_) (a' := ?_) #[true, false, false, false, false, false, false] rfl rfl (by kernel_rfl) (fun _ _ _ h => h) (Or.inl ⟨by rfl, ?_⟩) ?_ ?_
                rotate_left
                · intro w'
                  go_simp
                  with_reducible rfl
                rotate_left
                · simp only [Act.put, List.setIfInBounds_toArray, List.set_cons_zero, List.set_cons_succ, i64_w, i32_w]
                  rfl
                refine pure_ (i := 1) (N := some 14) (v := ?_) (a' := ?_) #[true, true, false, false, false, false, false] rfl rfl (by kernel_rfl) (fun _ _ _ h => h) (Or.inl ⟨by rfl, ?_⟩) ?_ ?_
                rotate_left
                · intro w'
                  go_simp
                  with_reducible rfl
                rotate_left
                · simp only [Act.put, List.setIfInBounds_toArray, List.set_cons_zero, List.set_cons_succ, i64_w, i32_w]
                  rfl
                refine pure_ (i := 3) (N := some 16) (v := ?_) (a' := ?_) #[true, true, false, true, false, false, false] rfl rfl (by kernel_rfl) (fun _ _ _ h => h) (Or.inl ⟨by rfl, ?_⟩) ?_ ?_
                rotate_left
                · intro w'
                  go_simp
                  with_reducible rfl
                rotate_left
                · simp only [Act.put, List.setIfInBounds_toArray, List.set_cons_zero, List.set_cons_succ, i64_w, i32_w]
                  rfl
                refine pure_ (i := 4) (N := some 17) (v := ?_) (a' := ?_) #[true, true, false, true, true, false, false] rfl rfl (by kernel_rfl) (fun _ _ _ h => h) (Or.inl ⟨by rfl, ?_⟩) ?_ ?_
                rotate_left
                · intro w'
                  go_simp
                  with_reducible rfl
                rotate_left
                · simp only [Act.put, List.setIfInBounds_toArray, List.set_cons_zero, List.set_cons_succ, i64_w, i32_w]
                  rfl
                refine one_ (i := 2) (N := some 15) #[true, true, true, true, true, false, false] rfl rfl (by kernel_rfl) (by decide) (fun K hK => ?_)
                refine goes_ Tryd.func44 (by kernel_rfl) rfl #[.string ((a0.extract ((ji3) : Int).toNat ((wrap64 ((ji3) + 3)) : Int).toNat).extract 0 1)] (by rfl) rfl rfl (by (try simp only [List.map_toArray, List.map_cons, List.map_nil]); first | done | (simp only [hji3]; rfl) | rfl | (simp only [List.length_drop, List.length_take]; rfl)) ?_
                with_reducible refine (strings_ToUpper.calls ((a0.extract ((ji3) : Int).toNat ((wrap64 ((ji3) + 3)) : Int).toNat).extract 0 1) t208 _ A9.out).mono ?_
                rintro e w13 ⟨rfl, hb⟩
                have hbk_w13 := Aside0.mk hb
                refine ⟨_, rfl, ?_⟩
                have n0_ := Aside0.mk (below_step (below_y HB.out) hb)
                clear HB
                have HB := n0_
                clear n0_
                (try clear hb)
                (try clear hb2)
                (try clear hk)
                (try clear hi)
                refine hK.out _ _ trivial (fun hHeld => ?_)
                clear hK K
                refine norm_ (a' := ?_) ?_ ?_
                rotate_left
                · show Act.put _ (some 15) _ = _
                  simp only [Act.put, List.setIfInBounds_toArray, List.set_cons_zero, List.set_cons_succ, i64_w, i32_w]
                  rfl
                refine pure_ (i := 5) (N := some 18) (v := ?_) (a' := ?_) #[true, true, true, true, true, true, false] rfl rfl (by kernel_rfl) (fun _ _ _ h => h) (Or.inl ⟨by rfl, ?_⟩) ?_ ?_
                rotate_left
                · intro w'
                  go_simp
                  with_reducible rfl
                rotate_left
                · simp only [Act.put, List.setIfInBounds_toArray, List.set_cons_zero, List.set_cons_succ, i64_w, i32_w]
                  rfl
                refine pure_ (i := 6) (N := some 4) (v := ?_) (a' := ?_) #[true, true, true, true, true, true, true] rfl rfl (by kernel_rfl) (fun _ _ _ h => h) (Or.inl ⟨by rfl, ?_⟩) ?_ ?_
                rotate_left
                · intro w'
                  go_simp
                  with_reducible rfl
                rotate_left
                · simp only [Act.put, List.setIfInBounds_toArray, List.set_cons_zero, List.set_cons_succ, i64_w, i32_w]
                  rfl
                refine done_ (by kernel_rfl) ?_
                try go_wp2
                go_ret
                exact ⟨by first | (rw [c8s]; exact rfl) | (rw [c8s]; done) | rfl | (simp [errW_none, errW_some] <;> rfl) | (simp only [← hji3]; first | rfl | (simp [errW_none, errW_some] <;> rfl)) | (simp [*, errW_none, errW_some] <;> rfl), by repeat (first | (with_reducible first | exact HB.out | apply below_alloc | apply pw_below_drewN | apply below_drew1) | exact HB.out)⟩
            · rw [if_neg c11] at H
              exact absurd H (by simp)
          · rw [if_neg c8] at H
            exact absurd H (by simp)
        · rw [if_neg c7] at H
          exact absurd H (by simp)
      · rw [if_neg c6] at H
        exact absurd H (by simp)
    · rw [if_neg c5] at H
      exact absurd H (by simp)
  · rw [if_neg c4] at H
    exact absurd H (by simp)

end Go.Proofs.YtghdkpcpgpfgcaaDoor.XSta
