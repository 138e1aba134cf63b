/- Texts of this work in one: printed walks of functions. -/
import Derived.Test.YtghdkpcpgpfgcaaDoorXStbM0a
namespace Go.Proofs.YtghdkpcpgpfgcaaDoor.XStb
open Go.RowKit Go.Proofs.YtghdkpcpgpfgcaaDoorW.PrintWords Go.Proofs.YtghdkpcpgpfgcaaDoorW.PrintLast Go.Proofs.YtghdkpcpgpfgcaaDoorW.PrintMore
attribute [local go_sem] max2_int min2_int max_two min_two max_three min_three max_four min_four   -- for this text's walks alone
set_option linter.unusedVariables false
set_option linter.unusedSimpArgs false
/-! ### stamp_name: function 21 -/
def stamp_name.f (a0 : ByteArray) (a1 : Int) : Option (ByteArray) := if 0 ≤ (wrap64 (4 * a1)) then (if (wrap64 (4 * a1)) ≤ (wrap64 ((wrap64 (4 * a1)) + 3)) then (if (wrap64 ((wrap64 (4 * a1)) + 3)) ≤ (a0.size : Int) then (if 0 ≤ 1 then (if 1 ≤ ((a0.extract ((wrap64 (4 * a1)) : Int).toNat ((wrap64 ((wrap64 (4 * a1)) + 3)) : Int).toNat).size : Int) then ((strings_ToUpper.f ((a0.extract ((wrap64 (4 * a1)) : Int).toNat ((wrap64 ((wrap64 (4 * a1)) + 3)) : Int).toNat).extract 0 1)).bind fun t208 => (if t208.size + ((a0.extract ((wrap64 (4 * a1)) : Int).toNat ((wrap64 ((wrap64 (4 * a1)) + 3)) : Int).toNat).extract 1 (a0.extract ((wrap64 (4 * a1)) : Int).toNat ((wrap64 ((wrap64 (4 * a1)) + 3)) : Int).toNat).size).size ≤ 9223372036854775807 then (some (t208 ++ ((a0.extract ((wrap64 (4 * a1)) : Int).toNat ((wrap64 ((wrap64 (4 * a1)) + 3)) : Int).toNat).extract 1 (a0.extract ((wrap64 (4 * a1)) : Int).toNat ((wrap64 ((wrap64 (4 * a1)) + 3)) : Int).toNat).size))) else (none))) else (none)) else (none)) else (none)) else (none)) else (none)
set_option maxHeartbeats 8000000 in
set_option maxRecDepth 100000 in
theorem stamp_name.calls (a0 : ByteArray) (a1 : Int) (r : ByteArray) (w : World) (h : stamp_name.f a0 a1 = some r) :
  Calls Tryd.prog 21 #[.string a0, .int .i64 a1] w fun e w' => e = .returned (.string r) ∧ Below w.heap.size w w' := by
 have HB := mkA (Below.refl w.heap.size w)
 have H : (if 0 ≤ (wrap64 (4 * a1)) then (if (wrap64 (4 * a1)) ≤ (wrap64 ((wrap64 (4 * a1)) + 3)) then (if (wrap64 ((wrap64 (4 * a1)) + 3)) ≤ (a0.size : Int) then (if 0 ≤ 1 then (if 1 ≤ ((a0.extract ((wrap64 (4 * a1)) : Int).toNat ((wrap64 ((wrap64 (4 * a1)) + 3)) : Int).toNat).size : Int) then ((strings_ToUpper.f ((a0.extract ((wrap64 (4 * a1)) : Int).toNat ((wrap64 ((wrap64 (4 * a1)) + 3)) : Int).toNat).extract 0 1)).bind fun t208 => (if t208.size + ((a0.extract ((wrap64 (4 * a1)) : Int).toNat ((wrap64 ((wrap64 (4 * a1)) + 3)) : Int).toNat).extract 1 (a0.extract ((wrap64 (4 * a1)) : Int).toNat ((wrap64 ((wrap64 (4 * a1)) + 3)) : Int).toNat).size).size ≤ 9223372036854775807 then (some (t208 ++ ((a0.extract ((wrap64 (4 * a1)) : Int).toNat ((wrap64 ((wrap64 (4 * a1)) + 3)) : Int).toNat).extract 1 (a0.extract ((wrap64 (4 * a1)) : Int).toNat ((wrap64 ((wrap64 (4 * a1)) + 3)) : Int).toNat).size))) else (none))) else (none)) else (none)) else (none)) else (none)) else (none)) = some r := h
 clear h
 obtain ⟨ji3, hji3⟩ : ∃ j_ : Int, (wrap64 (4 * a1)) = j_ := ⟨_, rfl⟩
 replace H : (if 0 ≤ (ji3) then (if (ji3) ≤ (wrap64 ((ji3) + 3)) then (if (wrap64 ((ji3) + 3)) ≤ (a0.size : Int) then (if 0 ≤ 1 then (if 1 ≤ ((a0.extract ((ji3) : Int).toNat ((wrap64 ((ji3) + 3)) : Int).toNat).size : Int) then ((strings_ToUpper.f ((a0.extract ((ji3) : Int).toNat ((wrap64 ((ji3) + 3)) : Int).toNat).extract 0 1)).bind fun t208 => (if t208.size + ((a0.extract ((ji3) : Int).toNat ((wrap64 ((ji3) + 3)) : Int).toNat).extract 1 (a0.extract ((ji3) : Int).toNat ((wrap64 ((ji3) + 3)) : Int).toNat).size).size ≤ 9223372036854775807 then (some (t208 ++ ((a0.extract ((ji3) : Int).toNat ((wrap64 ((ji3) + 3)) : Int).toNat).extract 1 (a0.extract ((ji3) : Int).toNat ((wrap64 ((ji3) + 3)) : Int).toNat).size))) else (none))) else (none)) else (none)) else (none)) else (none)) else (none)) = some r := by first | (rw [hji3] at H; exact H) | (simp only [hji3] at H ⊢; exact H)
 have hji3w : (IntKind.i64.wrap (4 * a1)) = ji3 := (i64_w _).trans hji3
 by_cases c4 : 0 ≤ (ji3)
 ·rw [if_pos c4] at H
  have c4b0 := eq_true c4
  have c4b1 : decide (0 ≤ (ji3)) = true := decide_eq_true c4
  clear c4
  by_cases c5 : (ji3) ≤ (wrap64 ((ji3) + 3))
  ·rw [if_pos c5] at H
   have c5b0 := eq_true c5
   have c5b1 : decide ((ji3) ≤ (wrap64 ((ji3) + 3))) = true := decide_eq_true c5
   by_cases c6 : (wrap64 ((ji3) + 3)) ≤ (a0.size : Int)
   ·rw [if_pos c6] at H
    have c6b0 := eq_true c6
    have c6b1 : decide ((wrap64 ((ji3) + 3)) ≤ (a0.size : Int)) = true := decide_eq_true c6
    by_cases c7 : 0 ≤ 1
    ·rw [if_pos c7] at H
     have c7b0 := eq_true c7
     have c7b1 : decide (0 ≤ 1) = true := decide_eq_true c7
     clear c7
     by_cases c8 : 1 ≤ ((a0.extract ((ji3) : Int).toNat ((wrap64 ((ji3) + 3)) : Int).toNat).size : Int)
     ·rw [if_pos c8] at H
      have c8b0 := eq_true c8
      have c8b1 : decide (1 ≤ ((a0.extract ((ji3) : Int).toNat ((wrap64 ((ji3) + 3)) : Int).toNat).size : Int)) = true := decide_eq_true c8
      have c8s : (a0.extract (ji3).toNat (wrap64 (ji3 + 3)).toNat).size = (wrap64 (ji3 + 3)).toNat - (ji3).toNat := by rw [ByteArray.size_extract]; omega
      have c8z : (1 ≤ (((wrap64 (ji3 + 3)).toNat - ji3.toNat : Nat) : Int)) = True := eq_true (by have h8 := c8; rw [ByteArray.size_extract] at h8; omega)
      replace H := Option.bind_eq_some_iff.mp H
      obtain ⟨t208, A90, H⟩ := H
      replace H : (if t208.size + ((a0.extract ((ji3) : Int).toNat ((wrap64 ((ji3) + 3)) : Int).toNat).extract 1 (a0.extract ((ji3) : Int).toNat ((wrap64 ((ji3) + 3)) : Int).toNat).size).size ≤ 9223372036854775807 then (some (t208 ++ ((a0.extract ((ji3) : Int).toNat ((wrap64 ((ji3) + 3)) : Int).toNat).extract 1 (a0.extract ((ji3) : Int).toNat ((wrap64 ((ji3) + 3)) : Int).toNat).size))) else (none)) = some r := H
      have A9 := mkA A90
      clear A90
      have c10b0 := eq_true (odt : 1 ≤ ((a0.extract ((ji3) : Int).toNat ((wrap64 ((ji3) + 3)) : Int).toNat).size : Int))
      by_cases c11 : t208.size + ((a0.extract ((ji3) : Int).toNat ((wrap64 ((ji3) + 3)) : Int).toNat).extract 1 (a0.extract ((ji3) : Int).toNat ((wrap64 ((ji3) + 3)) : Int).toNat).size).size ≤ 9223372036854775807
      ·rw [if_pos c11] at H
       have c11b0 := eq_true c11
       have c11z : (9223372036854775807 < t208.size + ((wrap64 (ji3 + 3)).toNat - ji3.toNat - 1)) = False := eq_false (by have h8 := c11; simp only [ByteArray.size_extract] at h8; omega)
       have c11b1 : decide (t208.size + ((a0.extract ((ji3) : Int).toNat ((wrap64 ((ji3) + 3)) : Int).toNat).extract 1 (a0.extract ((ji3) : Int).toNat ((wrap64 ((ji3) + 3)) : Int).toNat).size).size ≤ 9223372036854775807) = true := decide_eq_true c11
       try have c11b2 : (9223372036854775807 < t208.size + ((a0.extract ((ji3) : Int).toNat ((wrap64 ((ji3) + 3)) : Int).toNat).extract 1 (a0.extract ((ji3) : Int).toNat ((wrap64 ((ji3) + 3)) : Int).toNat).size).size) = False := eq_false (Nat.not_lt.2 c11)
       obtain rfl := Option.some.inj H
       as_aux_lemma =>
        go_enter Tryd.func21, Tryd.ntmps21
        try go_wp2
        have n0_ := mkA (below_drew1 HB.out)
        clear HB
        have HB := n0_
        clear n0_
        refine start_ (n := 7) (S := fun w' => True) (ds := []) #[false, false, false, false, false, false, false] (by kernel_rfl) rfl rfl trivial (fun hHeld => ?_)
        generalize w.drew = w12 at HB hHeld ⊢
        refine pure_ (i := 0) (N := some 13) (v := ?_) (a' := ?_) #[true, false, false, false, false, false, false] rfl rfl (by kernel_rfl) (fun _ _ _ h => h) (Or.inl ⟨by rfl, ?_⟩) ?_ ?_
        rotate_left
        ·intro w'
         go_simp
         with_reducible rfl
        rotate_left
        ·simp only [Act.put, sA, s0, sS, i64_w, i32_w]
         rfl
        refine pure_ (i := 1) (N := some 14) (v := ?_) (a' := ?_) #[true, true, false, false, false, false, false] rfl rfl (by kernel_rfl) (fun _ _ _ h => h) (Or.inl ⟨by rfl, ?_⟩) ?_ ?_
        rotate_left
        ·intro w'
         go_simp
         with_reducible rfl
        rotate_left
        ·simp only [Act.put, sA, s0, sS, i64_w, i32_w]
         rfl
        refine pure_ (i := 3) (N := some 16) (v := ?_) (a' := ?_) #[true, true, false, true, false, false, false] rfl rfl (by kernel_rfl) (fun _ _ _ h => h) (Or.inl ⟨by rfl, ?_⟩) ?_ ?_
        rotate_left
        ·intro w'
         go_simp
         with_reducible rfl
        rotate_left
        ·simp only [Act.put, sA, s0, sS, i64_w, i32_w]
         rfl
        refine pure_ (i := 4) (N := some 17) (v := ?_) (a' := ?_) #[true, true, false, true, true, false, false] rfl rfl (by kernel_rfl) (fun _ _ _ h => h) (Or.inl ⟨by rfl, ?_⟩) ?_ ?_
        rotate_left
        ·intro w'
         go_simp
         with_reducible rfl
        rotate_left
        ·simp only [Act.put, sA, s0, sS, i64_w, i32_w]
         rfl
        refine one_ (i := 2) (N := some 15) #[true, true, true, true, true, false, false] rfl rfl (by kernel_rfl) (by decide) (fun K hK => ?_)
        refine goes_ Tryd.func44 (by kernel_rfl) rfl #[.string ((a0.extract ((ji3) : Int).toNat ((wrap64 ((ji3) + 3)) : Int).toNat).extract 0 1)] (by rfl) rfl rfl (by (try simp only [List.map_toArray, List.map_cons, List.map_nil]); first | done | (simp only [hji3]; rfl) | rfl | (simp only [List.length_drop, List.length_take]; rfl)) ?_
        with_reducible refine (strings_ToUpper.calls ((a0.extract ((ji3) : Int).toNat ((wrap64 ((ji3) + 3)) : Int).toNat).extract 0 1) t208 _ A9.out).mono ?_
        rintro e w13 ⟨rfl, hb⟩
        have hbk_w13 := mkA hb
        refine ⟨_, rfl, ?_⟩
        have n0_ := mkA (below_step (below_y HB.out) hb)
        clear HB
        have HB := n0_
        clear n0_
        (try clear hb)
        (try clear hb2)
        (try clear hk)
        (try clear hi)
        refine hK.out _ _ trivial (fun hHeld => ?_)
        clear hK K
        refine norm_ (a' := ?_) ?_ ?_
        rotate_left
        ·show Act.put _ (some 15) _ = _
         simp only [Act.put, sA, s0, sS, i64_w, i32_w]
         rfl
        refine pure_ (i := 5) (N := some 18) (v := ?_) (a' := ?_) #[true, true, true, true, true, true, false] rfl rfl (by kernel_rfl) (fun _ _ _ h => h) (Or.inl ⟨by rfl, ?_⟩) ?_ ?_
        rotate_left
        ·intro w'
         go_simp
         with_reducible rfl
        rotate_left
        ·simp only [Act.put, sA, s0, sS, i64_w, i32_w]
         rfl
        refine pure_ (i := 6) (N := some 4) (v := ?_) (a' := ?_) #[true, true, true, true, true, true, true] rfl rfl (by kernel_rfl) (fun _ _ _ h => h) (Or.inl ⟨by rfl, ?_⟩) ?_ ?_
        rotate_left
        ·intro w'
         go_simp
         with_reducible rfl
        rotate_left
        ·simp only [Act.put, sA, s0, sS, i64_w, i32_w]
         rfl
        refine done_ (by kernel_rfl) ?_
        try go_wp2
        go_ret
        exact ⟨by first | (rw [c8s]; exact rfl) | (rw [c8s]; done) | rfl | (simp [errW_none, errW_some] <;> rfl) | (simp only [← hji3]; first | rfl | (simp [errW_none, errW_some] <;> rfl)) | (simp [*, errW_none, errW_some] <;> rfl), below_y HB.out⟩
      ·rw [if_neg c11] at H
       exact absurd H (by simp)
     ·rw [if_neg c8] at H
      exact absurd H (by simp)
    ·rw [if_neg c7] at H
     exact absurd H (by simp)
   ·rw [if_neg c6] at H
    exact absurd H (by simp)
  ·rw [if_neg c5] at H
   exact absurd H (by simp)
 ·rw [if_neg c4] at H
  exact absurd H (by simp)

/-! ### num_digits: function 45 -/
def num_digits.dg : Nat → Nat → List UInt8
 | 0, _ => []
 | k + 1, n => if n < 10 then [UInt8.ofNat (48 + n)] else num_digits.dg k (n / 10) ++ [UInt8.ofNat (48 + n % 10)]
def num_digits.f (a0 : Int) : Option ByteArray := if 0 ≤ a0 ∧ a0 < 18446744073709551616 then some ⟨(num_digits.dg 20 a0.toNat).toArray⟩ else none
theorem num_digits.back {ops : Array Oper} {rest : List Oper} {o : Oper} {a : Act} {Q : Exit → Act → World → Prop} {W : World} (hgd : o.guard = none) {g off n c : Nat} (l : List UInt8)
  (ho : ∃ x, o.op = .convert 33 9 x ∧ a.eval x = .slice (some ⟨g, off, none⟩) n c) (hn : n = l.length)
  (hl : ∀ j (h : j < l.length), W.cell? ⟨g, off + j, none⟩ = some (.int .u8 (l[j].toNat : Int)))
  (h : wpList Tryd.prog ops Q rest (a.put o.dst (.string ⟨l.toArray⟩)) W) : wpList Tryd.prog ops Q (o :: rest) a W := by
 obtain ⟨x, ho, hx⟩ := ho
 subst hn
 have hrun := run_convert_bytes_back (P := Tryd.prog) W 33 9 5 ⟨g, off, none⟩ c l Tryd.underlying33 Tryd.underlying5 Tryd.underlying9 (fun j hj => by
  have h := hl j hj
  unfold Addr.add
  split
  ·rename_i e
   subst e
   exact h
  ·exact h)
 have hex : (execOp a.eval o).run Tryd.prog W = .ok (.value (.string ⟨l.toArray⟩)) W := by
  unfold execOp
  simp only [ho, hx, Sem.run_bind, Sem.run_pure, hrun, Result.andThen_ok]
 exact Kd.event_run hgd hex h
/-- The digits that lie from a place on. -/
def num_digits.lies (W : World) (g k : Nat) (l : List UInt8) : Prop := ∃ cs : Array Value, W.heap[g]? = some (.cells cs 96 (0, 0)) ∧ cs.size = 20 ∧ ∀ j c, l[j]? = some c → cs[k + j]? = some (.int .u8 (c.toNat : Int))
theorem num_digits.cell {W : World} {g k : Nat} {l : List UInt8} (h : num_digits.lies W g k l) (i : Nat) (hi : i < 20) : ∃ v, W.cell? ⟨g, i, none⟩ = some v ∧ W.frozen? ⟨g, i, none⟩ = false := by
 obtain ⟨cs, h1, h2, h3⟩ := h
 exact ⟨_, (blk_cell h1 i).trans (Array.getElem?_eq_getElem (by omega)), blk_frozen h1 i⟩
theorem num_digits.set {W : World} {g k : Nat} {l : List UInt8} (h : num_digits.lies W g (k + 1) l) (hk : k < 20) (c : UInt8) : num_digits.lies (W.setCell ⟨g, k, none⟩ (.int .u8 (c.toNat : Int))) g k (c :: l) := by
 obtain ⟨cs, h1, h2, h3⟩ := h
 refine ⟨_, blk_set h1 k _, by rw [Array.size_setIfInBounds]; exact h2, fun j u hj => ?_⟩
 cases j with
 | zero =>
  obtain rfl : c = u := Option.some.inj hj
  rw [Nat.add_zero, Array.getElem?_setIfInBounds_self_of_lt (by omega)]
 | succ j =>
  rw [Array.getElem?_setIfInBounds_ne (by omega), ← h3 j u hj]
  congr 1
  omega
theorem num_digits.keep {W W1 : World} {g k : Nat} {l : List UInt8} (h : num_digits.lies W g k l) (hb : Below W.heap.size W W1) : num_digits.lies W1 g k l := by
 obtain ⟨cs, h1, h2, h3⟩ := h
 exact ⟨cs, blk_below h1 hb, h2, h3⟩
theorem num_digits.drew {W : World} {g k : Nat} {l : List UInt8} (h : num_digits.lies W g k l) : num_digits.lies W.drew g k l := h
theorem num_digits.wr (n : Int) (h : -9223372036854775808 ≤ n ∧ n ≤ 9223372036854775807) : wrap64 n = n := by unfold wrap64; omega
set_option maxHeartbeats 1000000 in
set_option maxRecDepth 100000 in
theorem num_digits.calls (a0 : Int) (r : ByteArray) (w : World) (h : num_digits.f a0 = some r) :
  Calls Tryd.prog 45 #[.int .u64 a0] w fun e w' => e = .returned (.string r) ∧ Below w.heap.size w w' := by
 unfold num_digits.f at h
 split at h
 rotate_left
 ·cases h
 rename_i hs
 obtain rfl := Option.some.inj h
 obtain ⟨n, rfl⟩ : ∃ n : Nat, a0 = n := ⟨a0.toNat, by omega⟩
 rw [Int.toNat_natCast]
 have HS := mkA (show n < 18446744073709551616 by omega)
 clear h hs
 have HB := mkA (Below.refl w.heap.size w)
 go_enter Tryd.func45, Tryd.ntmps45
 go_wp2_with (first | ((with_reducible refine gate_dst (N := 3) rfl ?_); refine box_event ?hg (N := 3) ?hd (cs := #[.int .u8 0, .int .u8 0, .int .u8 0, .int .u8 0, .int .u8 0, .int .u8 0, .int .u8 0, .int .u8 0, .int .u8 0, .int .u8 0, .int .u8 0, .int .u8 0, .int .u8 0, .int .u8 0, .int .u8 0, .int .u8 0, .int .u8 0, .int .u8 0, .int .u8 0, .int .u8 0]) (t := 96) ?hr ?_; (case hd => rfl); (case hg => rfl); (case hr => first | (go_simp; done) | (go_simp; rfl)); intro gb hg w1 hbox hb; have n0_ := mkA (below_step (below_y HB.out) hb); have n1_ := mkA (show num_digits.lies w1 gb 20 [] from ⟨_, hbox, rfl, fun j c hj => by simp at hj⟩); have n2_ := mkA ((gz hg HB.out : w.heap.size ≤ gb)); clear HB; have HB := n0_; have HL := n1_; have GE := n2_; clear n0_ n1_ n2_; clear hb hbox hg))
 go_loopw [0, 4] (fun v0 v4 wr => ∃ (u k : Nat) (l : List UInt8), v0 = .int .u64 u ∧ v4 = .int .i64 ((k + 1 : Nat) : Int) ∧ Aside0 (k < 20 ∧ u < 10 ^ (k + 1) ∧ u < 18446744073709551616 ∧ l.length + k = 19 ∧ num_digits.dg (k + 1) u ++ l = num_digits.dg 20 n) ∧ Aside0 (num_digits.lies wr gb (k + 1) l) ∧ Aside0 (Below w.heap.size w wr)) (fun _ v4 _ => (intOf v4).toNat)
 case atStart => exact ⟨n, 19, [], rfl, rfl, ⟨by omega, by have := HS.out; omega, HS.out, rfl, by rw [List.append_nil]⟩, HL, HB⟩
 case round =>
  clear HL HB
  obtain ⟨u, k, l, rfl, rfl, HP, HL, HB⟩ := hrel
  have hw : wrap64 (((k + 1 : Nat) : Int) - 1) = (k : Int) := by rw [num_digits.wr _ ⟨by omega, by have := HP.out.1; omega⟩]; omega
  have hk := HP.out.1
  obtain ⟨v, hx, hz⟩ := num_digits.cell HL.out k hk
  have hk1 : (k < 20) = True := eq_true hk
  have hk2 : ((k : Int) < 20) = True := eq_true (by omega)
  have hk3 : (k ≤ 20) = True := eq_true (by omega)
  have hk4 : ((k : Int) ≤ 20) = True := eq_true (by omega)
  have hk5 : ((20 : Nat) = k) = False := eq_false (by omega)
  obtain ⟨ch, hce⟩ : ∃ c, c = UInt8.ofNat (48 + u % 10) := ⟨_, rfl⟩
  have hch : (48 + (u : Int) % 10) = ((ch.toNat : Nat) : Int) := by
   rw [hce, UInt8.toNat_ofNat']
   have : u % 10 < 10 := Nat.mod_lt _ (by omega)
   omega
  have HCE := mkA hce
  clear hce
  have hw2 : wrap64 (k : Int) = (k : Int) := num_digits.wr _ ⟨by omega, by omega⟩
  have HCH := mkA hch
  clear hch
  have hq : IntKind.u64.wrap ((u : Int) / 10) = ((u / 10 : Nat) : Int) := by
   have := HP.out.2.2.1
   show ((u : Int) / 10) % 18446744073709551616 = _
   omega
  have HQ := mkA hq
  by_cases hu : u < 10
  ·have h0 : u / 10 = 0 := by omega
   have e0 : (IntKind.u64.wrap ((u : Int) / 10) == 0) = true := by rw [hq, h0]; rfl
   clear hq
   have HU := mkA hu
   clear hu h0 hk
   have hal : Tryd.prog.arrayLen 96 = 20 := by kernel_rfl
   go_wp2_with (first | ((with_reducible refine gate_dst (N := 19) rfl ?_); refine num_digits.back (l := ch :: l) (g := gb) (off := k) (n := 20 - k) (c := 20 - k) ?hg ?ho ?hn ?hl ?_; (case hg => rfl); (case ho => refine ⟨_, rfl, ?_⟩; first | (with_reducible rfl) | (go_simp; done) | rfl | (go_simp; rfl)); (case hn => have := HP.out.2.2.2.1; rw [List.length_cons]; omega); (case hl => intro j hj; rw [HCH.out]; obtain ⟨cs, b1, b2, b3⟩ := num_digits.set HL.out HP.out.1 (ch); exact (blk_cell b1 (k + j)).trans (b3 j _ (List.getElem?_eq_getElem hj)))))
   go_ret
   exact ⟨by rw [← HP.out.2.2.2.2, num_digits.dg, if_pos HU.out, HCE.out, Nat.mod_eq_of_lt HU.out]; rfl, below_set HB.out GE.out⟩
  ·have e0 : (IntKind.u64.wrap ((u : Int) / 10) == 0) = false := by rw [hq]; exact beq_eq_false_iff_ne.mpr (by omega)
   clear hq
   have HU := mkA hu
   clear hu hk
   go_wp2
   rw [HQ.out, HCH.out]
   try rw [hw2]
   have hk0 : k ≠ 0 := by
    intro e
    subst e
    have := HP.out.2.1
    have := HU.out
    omega
   obtain ⟨m, rfl⟩ : ∃ m, k = m + 1 := ⟨k - 1, by omega⟩
   refine ⟨⟨u / 10, m, ch :: l, rfl, rfl, ⟨?_⟩, ⟨num_digits.set HL.out HP.out.1 _⟩, ⟨below_set HB.out GE.out⟩⟩, ?_⟩
   ·obtain ⟨p1, p2, p3, p4, p5⟩ := HP.out
    refine ⟨by omega, ?_, by omega, by rw [List.length_cons]; omega, ?_⟩
    ·rw [Nat.pow_succ] at p2
     exact Nat.div_lt_of_lt_mul (by rw [Nat.mul_comm]; exact p2)
    ·rw [← p5]
     conv => rhs; rw [num_digits.dg, if_neg HU.out, ← HCE.out]
     rw [List.append_assoc]
     rfl
   ·show (((m + 1 : Nat) : Int)).toNat < (((m + 1 + 1 : Nat) : Int)).toNat
    omega

/-! ### num_Put: function 23 -/
def num_Put.f (a0 : Int) : Option (ByteArray) := if a0 < 0 then ((num_digits.f (IntKind.u64.wrap (-(IntKind.u64.wrap (a0))))).bind fun t209 => (if 1 + t209.size ≤ 9223372036854775807 then (some ((⟨#[45]⟩ : ByteArray) ++ t209)) else (none))) else ((num_digits.f (IntKind.u64.wrap (a0))).bind fun t210 => (some t210))
set_option maxHeartbeats 8000000 in
set_option maxRecDepth 100000 in
theorem num_Put.calls (a0 : Int) (r : ByteArray) (w : World) (h : num_Put.f a0 = some r) :
  Calls Tryd.prog 23 #[.int .i64 a0] w fun e w' => e = .returned (.string r) ∧ Below w.heap.size w w' := by
 have HB := mkA (Below.refl w.heap.size w)
 have H : (if a0 < 0 then ((num_digits.f (IntKind.u64.wrap (-(IntKind.u64.wrap (a0))))).bind fun t209 => (if 1 + t209.size ≤ 9223372036854775807 then (some ((⟨#[45]⟩ : ByteArray) ++ t209)) else (none))) else ((num_digits.f (IntKind.u64.wrap (a0))).bind fun t210 => (some t210))) = some r := h
 clear h
 by_cases c2 : a0 < 0
 ·rw [if_pos c2] at H
  have c2b0 : decide (a0 < 0) = true := decide_eq_true c2
  clear c2
  replace H := Option.bind_eq_some_iff.mp H
  obtain ⟨t209, A30, H⟩ := H
  replace H : (if 1 + t209.size ≤ 9223372036854775807 then (some ((⟨#[45]⟩ : ByteArray) ++ t209)) else (none)) = some r := H
  have A3 := mkA A30
  clear A30
  by_cases c4 : 1 + t209.size ≤ 9223372036854775807
  ·rw [if_pos c4] at H
   have c4b0 := eq_true c4
   have c4b1 : decide (1 + t209.size ≤ 9223372036854775807) = true := decide_eq_true c4
   try have c4b2 : (9223372036854775807 < 1 + t209.size) = False := eq_false (Nat.not_lt.2 c4)
   obtain rfl := Option.some.inj H
   as_aux_lemma =>
    go_enter Tryd.func23, Tryd.ntmps23
    go_wp2_with (first | ((with_reducible refine gate_callee (f := 45) rfl ?_); refine goesL_ (some 8) rfl rfl Tryd.func45 (by kernel_rfl) rfl #[.int .u64 (IntKind.u64.wrap (-(IntKind.u64.wrap (a0))))] rfl ca ?_; (with_reducible refine (num_digits.calls (IntKind.u64.wrap (-(IntKind.u64.wrap (a0)))) t209 _ A3.out).mono ?_); rintro e w5 ⟨rfl, hb⟩; refine ⟨_, rfl, ?_⟩; have n0_ := mkA (below_step (below_y HB.out) hb); clear HB; have HB := n0_; clear n0_; (try clear hb); (try clear hb2); (try clear hk); (try clear hi)))
    go_ret
    exact ⟨by first | rfl | (simp [errW_none, errW_some] <;> rfl) | (simp [*, errW_none, errW_some] <;> rfl), below_y HB.out⟩
  ·rw [if_neg c4] at H
   exact absurd H (by simp)
 ·rw [if_neg c2] at H
  have c2b0 : decide (a0 < 0) = false := decide_eq_false c2
  clear c2
  replace H := Option.bind_eq_some_iff.mp H
  obtain ⟨t210, A60, H⟩ := H
  replace H : (some t210) = some r := H
  have A6 := mkA A60
  clear A60
  obtain rfl := Option.some.inj H
  as_aux_lemma =>
   go_enter Tryd.func23, Tryd.ntmps23
   go_wp2_with (first | ((with_reducible refine gate_callee (f := 45) rfl ?_); refine goesL_ (some 12) rfl rfl Tryd.func45 (by kernel_rfl) rfl #[.int .u64 (IntKind.u64.wrap (a0))] rfl ca ?_; (with_reducible refine (num_digits.calls (IntKind.u64.wrap (a0)) t210 _ A6.out).mono ?_); rintro e w7 ⟨rfl, hb⟩; refine ⟨_, rfl, ?_⟩; have n0_ := mkA (below_step (below_y HB.out) hb); clear HB; have HB := n0_; clear n0_; (try clear hb); (try clear hb2); (try clear hk); (try clear hi)))
   go_ret
   exact ⟨by first | rfl | (simp [errW_none, errW_some] <;> rfl) | (simp [*, errW_none, errW_some] <;> rfl), below_y HB.out⟩

/-! ### stamp_two: function 22 -/
def stamp_two.f (a0 : Int) : Option (ByteArray) := if a0 < 10 then ((num_Put.f a0).bind fun t211 => (if 1 + t211.size ≤ 9223372036854775807 then (some ((⟨#[48]⟩ : ByteArray) ++ t211)) else (none))) else ((num_Put.f a0).bind fun t212 => (some t212))
set_option maxHeartbeats 8000000 in
set_option maxRecDepth 100000 in
theorem stamp_two.calls (a0 : Int) (r : ByteArray) (w : World) (h : stamp_two.f a0 = some r) :
  Calls Tryd.prog 22 #[.int .i64 a0] w fun e w' => e = .returned (.string r) ∧ Below w.heap.size w w' := by
 have HB := mkA (Below.refl w.heap.size w)
 have H : (if a0 < 10 then ((num_Put.f a0).bind fun t211 => (if 1 + t211.size ≤ 9223372036854775807 then (some ((⟨#[48]⟩ : ByteArray) ++ t211)) else (none))) else ((num_Put.f a0).bind fun t212 => (some t212))) = some r := h
 clear h
 by_cases c2 : a0 < 10
 ·rw [if_pos c2] at H
  have c2b0 : decide (a0 < 10) = true := decide_eq_true c2
  clear c2
  replace H := Option.bind_eq_some_iff.mp H
  obtain ⟨t211, A30, H⟩ := H
  replace H : (if 1 + t211.size ≤ 9223372036854775807 then (some ((⟨#[48]⟩ : ByteArray) ++ t211)) else (none)) = some r := H
  have A3 := mkA A30
  clear A30
  by_cases c4 : 1 + t211.size ≤ 9223372036854775807
  ·rw [if_pos c4] at H
   have c4b0 := eq_true c4
   have c4b1 : decide (1 + t211.size ≤ 9223372036854775807) = true := decide_eq_true c4
   try have c4b2 : (9223372036854775807 < 1 + t211.size) = False := eq_false (Nat.not_lt.2 c4)
   obtain rfl := Option.some.inj H
   as_aux_lemma =>
    go_enter Tryd.func22, Tryd.ntmps22
    go_wp2_with (first | ((with_reducible refine gate_callee (f := 23) rfl ?_); refine goesL_ (some 6) rfl rfl Tryd.func23 (by kernel_rfl) rfl #[.int .i64 a0] rfl ca ?_; (with_reducible refine (num_Put.calls a0 t211 _ A3.out).mono ?_); rintro e w5 ⟨rfl, hb⟩; refine ⟨_, rfl, ?_⟩; have n0_ := mkA (below_step (below_y HB.out) hb); clear HB; have HB := n0_; clear n0_; (try clear hb); (try clear hb2); (try clear hk); (try clear hi)))
    go_ret
    exact ⟨by first | rfl | (simp [errW_none, errW_some] <;> rfl) | (simp [*, errW_none, errW_some] <;> rfl), below_y HB.out⟩
  ·rw [if_neg c4] at H
   exact absurd H (by simp)
 ·rw [if_neg c2] at H
  have c2b0 : decide (a0 < 10) = false := decide_eq_false c2
  clear c2
  replace H := Option.bind_eq_some_iff.mp H
  obtain ⟨t212, A60, H⟩ := H
  replace H : (some t212) = some r := H
  have A6 := mkA A60
  clear A60
  obtain rfl := Option.some.inj H
  as_aux_lemma =>
   go_enter Tryd.func22, Tryd.ntmps22
   go_wp2_with (first | ((with_reducible refine gate_callee (f := 23) rfl ?_); refine goesL_ (some 9) rfl rfl Tryd.func23 (by kernel_rfl) rfl #[.int .i64 a0] rfl ca ?_; (with_reducible refine (num_Put.calls a0 t212 _ A6.out).mono ?_); rintro e w7 ⟨rfl, hb⟩; refine ⟨_, rfl, ?_⟩; have n0_ := mkA (below_step (below_y HB.out) hb); clear HB; have HB := n0_; clear n0_; (try clear hb); (try clear hb2); (try clear hk); (try clear hi)))
   go_ret
   exact ⟨by first | rfl | (simp [errW_none, errW_some] <;> rfl) | (simp [*, errW_none, errW_some] <;> rfl), below_y HB.out⟩

/-! ### newsreelref17_Days: function 11 -/
mutual
def newsreelref17_Days.j0 : Nat → Int → Int → Bool → Option (Int)
 | 0, _, _, _ => none
 | k + 1, x0, x1, x18 => if x18 = true then (some 0) else (if x1 = 2 then (if (Int.tmod x0 4) = 0 then (if (Int.tmod x0 100) = 0 then (newsreelref17_Days.j1 k ((Int.tmod x0 400) == 0)) else (newsreelref17_Days.j1 k true)) else (newsreelref17_Days.j1 k false)) else (if x1 = 4 then (newsreelref17_Days.j2 k true) else (if x1 = 6 then (newsreelref17_Days.j2 k true) else (if x1 = 9 then (newsreelref17_Days.j2 k true) else (newsreelref17_Days.j2 k (x1 == 11))))))
def newsreelref17_Days.j1 : Nat → Bool → Option (Int)
 | 0, _ => none
 | k + 1, x33 => if x33 = true then (some 29) else (some 28)
def newsreelref17_Days.j2 : Nat → Bool → Option (Int)
 | 0, _ => none
 | k + 1, x47 => if x47 = true then (some 30) else (some 31)
end
def newsreelref17_Days.f (k : Nat) (a0 : Int) (a1 : Int) : Option (Int) := if a0 < 1970 then (newsreelref17_Days.j0 k a0 a1 true) else (if a0 > 2199 then (newsreelref17_Days.j0 k a0 a1 true) else (if a1 < 1 then (newsreelref17_Days.j0 k a0 a1 true) else (newsreelref17_Days.j0 k a0 a1 (decide (a1 > 12)))))
theorem newsreelref17_Days.mono_l : ∀ k, (∀ y0 y1 y2, LeO (newsreelref17_Days.j0 k y0 y1 y2) (newsreelref17_Days.j0 (k + 1) y0 y1 y2)) ∧ (∀ y0, LeO (newsreelref17_Days.j1 k y0) (newsreelref17_Days.j1 (k + 1) y0)) ∧ (∀ y0, LeO (newsreelref17_Days.j2 k y0) (newsreelref17_Days.j2 (k + 1) y0))
 | 0 => ⟨fun _ _ _ r h => by simp [newsreelref17_Days.j0] at h, fun _ r h => by simp [newsreelref17_Days.j1] at h, fun _ r h => by simp [newsreelref17_Days.j2] at h⟩
 | k + 1 => by
  obtain ⟨ih0, ih1, ih2⟩ := newsreelref17_Days.mono_l k
  refine ⟨?_, ?_, ?_⟩
  ·intro y0 y1 y2
   unfold newsreelref17_Days.j0
   repeat' first
   | (with_reducible exact ih0 _ _ _)
   | (with_reducible exact ih1 _)
   | (with_reducible exact ih2 _)
   | (with_reducible exact LeO.refl _)
   | (with_reducible exact LeO.none _)
   | (with_reducible refine LeO.ite ?_ ?_)
   | (with_reducible refine LeO.bind ?_ (fun _ => ?_))
   | exact ih0 _ _ _
   | exact ih1 _
   | exact ih2 _
   | exact LeO.none _
   | refine LeO.ite ?_ ?_
   | refine LeO.bind ?_ (fun _ => ?_)
  ·intro y0
   unfold newsreelref17_Days.j1
   repeat' first
   | (with_reducible exact ih0 _ _ _)
   | (with_reducible exact ih1 _)
   | (with_reducible exact ih2 _)
   | (with_reducible exact LeO.refl _)
   | (with_reducible exact LeO.none _)
   | (with_reducible refine LeO.ite ?_ ?_)
   | (with_reducible refine LeO.bind ?_ (fun _ => ?_))
   | exact ih0 _ _ _
   | exact ih1 _
   | exact ih2 _
   | exact LeO.none _
   | refine LeO.ite ?_ ?_
   | refine LeO.bind ?_ (fun _ => ?_)
  ·intro y0
   unfold newsreelref17_Days.j2
   repeat' first
   | (with_reducible exact ih0 _ _ _)
   | (with_reducible exact ih1 _)
   | (with_reducible exact ih2 _)
   | (with_reducible exact LeO.refl _)
   | (with_reducible exact LeO.none _)
   | (with_reducible refine LeO.ite ?_ ?_)
   | (with_reducible refine LeO.bind ?_ (fun _ => ?_))
   | exact ih0 _ _ _
   | exact ih1 _
   | exact ih2 _
   | exact LeO.none _
   | refine LeO.ite ?_ ?_
   | refine LeO.bind ?_ (fun _ => ?_)
theorem newsreelref17_Days.mono : ∀ a0 a1 k, LeO (newsreelref17_Days.f k a0 a1) (newsreelref17_Days.f (k + 1) a0 a1) := by
 intro a0 a1 k
 obtain ⟨ih0, ih1, ih2⟩ := newsreelref17_Days.mono_l k
 unfold newsreelref17_Days.f
 repeat' first
   | (with_reducible exact ih0 _ _ _)
   | (with_reducible exact ih1 _)
   | (with_reducible exact ih2 _)
   | (with_reducible exact LeO.refl _)
   | (with_reducible exact LeO.none _)
   | (with_reducible refine LeO.ite ?_ ?_)
   | (with_reducible refine LeO.bind ?_ (fun _ => ?_))
   | exact ih0 _ _ _
   | exact ih1 _
   | exact ih2 _
   | exact LeO.none _
   | refine LeO.ite ?_ ?_
   | refine LeO.bind ?_ (fun _ => ?_)
set_option maxHeartbeats 8000000 in
set_option maxRecDepth 100000 in
theorem newsreelref17_Days.calls (k : Nat) (a0 : Int) (a1 : Int) (r : Int) (w : World) (h : newsreelref17_Days.f k a0 a1 = some r) :
  Calls Tryd.prog 11 #[.int .i64 a0, .int .i64 a1] w fun e w' => e = .returned (.int .i64 r) ∧ Drawn0 w w' := by
 have H : (if a0 < 1970 then (newsreelref17_Days.j0 k a0 a1 true) else (if a0 > 2199 then (newsreelref17_Days.j0 k a0 a1 true) else (if a1 < 1 then (newsreelref17_Days.j0 k a0 a1 true) else (newsreelref17_Days.j0 k a0 a1 (decide (a1 > 12)))))) = some r := h
 clear h
 have HC3 := mkA H
 clear H
 go_enter Tryd.func11, Tryd.ntmps11
 go_upto_region 1 with (fail)
 go_cut [18] (fun v18 wc => ∃ (kq : Nat) (x18_2 : Bool), v18 = .bool x18_2 ∧ Aside0 (newsreelref17_Days.j0 kq a0 a1 x18_2 = some r) ∧ Aside0 (kq ≤ k) ∧ Drawn0 w wc)
 case first =>
  have H := HC3.out
  clear HC3
  by_cases c4 : a0 < 1970
  ·rw [if_pos c4] at H
   have c4b0 : decide (a0 < 1970) = true := decide_eq_true c4
   clear c4
   (first | rw [c4b0] | (simp only [i64_w, i32_w]; rw [c4b0]) | skip)
   as_aux_lemma =>
    have H' := mkA H
    clear H
    go_wp2
    go_meet
    case rel => exact ⟨_, (true), (by first | rfl | (simp; done) | (simp [*]; done)), H', ⟨by first | omega | exact Nat.le_refl _⟩, by repeat (first | exact Drawn0.refl _ | apply Drawn0.step)⟩
  ·rw [if_neg c4] at H
   have c4b0 : decide (a0 < 1970) = false := decide_eq_false c4
   clear c4
   (first | rw [c4b0] | (simp only [i64_w, i32_w]; rw [c4b0]) | skip)
   by_cases c5 : a0 > 2199
   ·rw [if_pos c5] at H
    have c5b0 : decide (2199 < a0) = true := decide_eq_true c5
    clear c5
    as_aux_lemma =>
     have H' := mkA H
     clear H
     go_wp2
     go_meet
     case rel => exact ⟨_, (true), (by first | rfl | (simp; done) | (simp [*]; done)), H', ⟨by first | omega | exact Nat.le_refl _⟩, by repeat (first | exact Drawn0.refl _ | apply Drawn0.step)⟩
   ·rw [if_neg c5] at H
    have c5b0 : decide (2199 < a0) = false := decide_eq_false c5
    clear c5
    by_cases c6 : a1 < 1
    ·rw [if_pos c6] at H
     have c6b0 : decide (a1 < 1) = true := decide_eq_true c6
     clear c6
     as_aux_lemma =>
      have H' := mkA H
      clear H
      go_wp2
      go_meet
      case rel => exact ⟨_, (true), (by first | rfl | (simp; done) | (simp [*]; done)), H', ⟨by first | omega | exact Nat.le_refl _⟩, by repeat (first | exact Drawn0.refl _ | apply Drawn0.step)⟩
    ·rw [if_neg c6] at H
     have c6b0 : decide (a1 < 1) = false := decide_eq_false c6
     clear c6
     as_aux_lemma =>
      have H' := mkA H
      clear H
      go_wp2
      go_meet
      case rel => exact ⟨_, (decide (a1 > 12)), (by first | rfl | (simp; done) | (simp [*]; done)), H', ⟨by first | omega | exact Nat.le_refl _⟩, by repeat (first | exact Drawn0.refl _ | apply Drawn0.step)⟩
 case rest =>
  clear HC3
  try clear c1
  try clear p2
  try clear c4
  try clear c4b0
  try clear c5
  try clear c5b0
  try clear c6
  try clear c6b0
  obtain ⟨kq, x18_2, rfl, HA, HJ2, ⟨mc2, rfl⟩⟩ := hcut
  cases kq with
  | zero => exact absurd HA.out (by simp [newsreelref17_Days.j0])
  | succ kj2 =>
   have H := HA.out
   clear HA
   simp only [newsreelref17_Days.j0] at H
   by_cases c7 : x18_2 = true
   ·subst c7
    have H1 : (some 0) = some r := by rw [if_pos rfl] at H; exact H
    clear H
    have H := H1
    clear H1
    as_aux_lemma =>
     obtain rfl := Option.some.inj H
     go_wp2
     go_ret
     exact ⟨by first | rfl | (simp; done) | (simp [*]; done), by repeat (first | exact Drawn0.refl _ | apply Drawn0.step)⟩
   ·replace c7 := Bool.eq_false_iff.mpr c7
    subst c7
    have H1 : (if a1 = 2 then (if (Int.tmod a0 4) = 0 then (if (Int.tmod a0 100) = 0 then (newsreelref17_Days.j1 kj2 ((Int.tmod a0 400) == 0)) else (newsreelref17_Days.j1 kj2 true)) else (newsreelref17_Days.j1 kj2 false)) else (if a1 = 4 then (newsreelref17_Days.j2 kj2 true) else (if a1 = 6 then (newsreelref17_Days.j2 kj2 true) else (if a1 = 9 then (newsreelref17_Days.j2 kj2 true) else (newsreelref17_Days.j2 kj2 (a1 == 11)))))) = some r := by rw [if_neg (show ¬ (false = true) by decide)] at H; exact H
    clear H
    have H := H1
    clear H1
    by_cases c8 : a1 = 2
    ·rw [if_pos c8] at H
     have c8b0 : (a1 == 2) = true := beq_iff_eq.mpr c8
     have c8b1 : (a1 != 2) = false := bne_eq_false_iff_eq.mpr c8
     clear c8
     have HC9 := mkA H
     clear H
     go_upto_region 4 with (fail)
     go_cut [33] (fun v33 wc => ∃ (kq : Nat) (x33_8 : Bool), v33 = .bool x33_8 ∧ Aside0 (newsreelref17_Days.j1 kq x33_8 = some r) ∧ Aside0 (kq ≤ kj2) ∧ Drawn0 w wc)
     case first =>
      have H := HC9.out
      clear HC9
      by_cases c10 : (Int.tmod a0 4) = 0
      ·rw [if_pos c10] at H
       have c10b0 : ((Int.tmod a0 4) == 0) = true := beq_iff_eq.mpr c10
       have c10b1 : ((Int.tmod a0 4) != 0) = false := bne_eq_false_iff_eq.mpr c10
       clear c10
       (first | rw [c10b0] | (simp only [i64_w, i32_w]; rw [c10b0]) | skip)
       by_cases c11 : (Int.tmod a0 100) = 0
       ·rw [if_pos c11] at H
        have c11b0 : ((Int.tmod a0 100) == 0) = true := beq_iff_eq.mpr c11
        have c11b1 : ((Int.tmod a0 100) != 0) = false := bne_eq_false_iff_eq.mpr c11
        clear c11
        as_aux_lemma =>
         have H' := mkA H
         clear H
         go_wp2
         go_meet
         case rel => exact ⟨_, (((Int.tmod a0 400) == 0)), (by first | rfl | (simp; done) | (simp [*]; done)), H', ⟨by have := HJ2.out; first | omega | exact Nat.le_refl _⟩, by repeat (first | exact Drawn0.refl _ | apply Drawn0.step)⟩
       ·rw [if_neg c11] at H
        have c11b0 : ((Int.tmod a0 100) == 0) = false := beq_eq_false_iff_ne.mpr c11
        have c11b1 : ((Int.tmod a0 100) != 0) = true := bne_iff_ne.mpr c11
        as_aux_lemma =>
         have H' := mkA H
         clear H
         go_wp2
         go_meet
         case rel => exact ⟨_, (true), (by first | rfl | (simp; done) | (simp [*]; done)), H', ⟨by have := HJ2.out; first | omega | exact Nat.le_refl _⟩, by repeat (first | exact Drawn0.refl _ | apply Drawn0.step)⟩
      ·rw [if_neg c10] at H
       have c10b0 : ((Int.tmod a0 4) == 0) = false := beq_eq_false_iff_ne.mpr c10
       have c10b1 : ((Int.tmod a0 4) != 0) = true := bne_iff_ne.mpr c10
       (first | rw [c10b0] | (simp only [i64_w, i32_w]; rw [c10b0]) | skip)
       as_aux_lemma =>
        have H' := mkA H
        clear H
        go_wp2
        go_meet
        case rel => exact ⟨_, (false), (by first | rfl | (simp; done) | (simp [*]; done)), H', ⟨by have := HJ2.out; first | omega | exact Nat.le_refl _⟩, by repeat (first | exact Drawn0.refl _ | apply Drawn0.step)⟩
     case rest =>
      clear HC9
      try clear c1
      try clear c2
      try clear p2
      try clear c4
      try clear c4b0
      try clear c5
      try clear c5b0
      try clear c6
      try clear c6b0
      try clear c7
      try clear c8
      try clear c8b0
      try clear c8b1
      try clear c10
      try clear c10b0
      try clear c10b1
      try clear c11
      try clear c11b0
      try clear c11b1
      try clear p2
      obtain ⟨kq, x33_8, rfl, HA, HJ8, ⟨mc8, rfl⟩⟩ := hcut
      cases kq with
      | zero => exact absurd HA.out (by simp [newsreelref17_Days.j1])
      | succ kj8 =>
       have H := HA.out
       clear HA
       simp only [newsreelref17_Days.j1] at H
       by_cases c12 : x33_8 = true
       ·subst c12
        have H1 : (some 29) = some r := by rw [if_pos rfl] at H; exact H
        clear H
        have H := H1
        clear H1
        as_aux_lemma =>
         obtain rfl := Option.some.inj H
         go_wp2
         go_ret
         exact ⟨by first | rfl | (simp; done) | (simp [*]; done), by repeat (first | exact Drawn0.refl _ | apply Drawn0.step)⟩
       ·replace c12 := Bool.eq_false_iff.mpr c12
        subst c12
        have H1 : (some 28) = some r := by rw [if_neg (show ¬ (false = true) by decide)] at H; exact H
        clear H
        have H := H1
        clear H1
        as_aux_lemma =>
         obtain rfl := Option.some.inj H
         go_wp2
         go_ret
         exact ⟨by first | rfl | (simp; done) | (simp [*]; done), by repeat (first | exact Drawn0.refl _ | apply Drawn0.step)⟩
    ·rw [if_neg c8] at H
     have c8b0 : (a1 == 2) = false := beq_eq_false_iff_ne.mpr c8
     have c8b1 : (a1 != 2) = true := bne_iff_ne.mpr c8
     have HC13 := mkA H
     clear H
     go_upto_region 7 with (fail)
     go_cut [47] (fun v47 wc => ∃ (kq : Nat) (x47_12 : Bool), v47 = .bool x47_12 ∧ Aside0 (newsreelref17_Days.j2 kq x47_12 = some r) ∧ Aside0 (kq ≤ kj2) ∧ Drawn0 w wc)
     case first =>
      have H := HC13.out
      clear HC13
      by_cases c14 : a1 = 4
      ·rw [if_pos c14] at H
       have c14b0 : (a1 == 4) = true := beq_iff_eq.mpr c14
       have c14b1 : (a1 != 4) = false := bne_eq_false_iff_eq.mpr c14
       clear c14
       (first | rw [c14b0] | (simp only [i64_w, i32_w]; rw [c14b0]) | skip)
       as_aux_lemma =>
        have H' := mkA H
        clear H
        go_wp2
        go_meet
        case rel => exact ⟨_, (true), (by first | rfl | (simp; done) | (simp [*]; done)), H', ⟨by have := HJ2.out; first | omega | exact Nat.le_refl _⟩, by repeat (first | exact Drawn0.refl _ | apply Drawn0.step)⟩
      ·rw [if_neg c14] at H
       have c14b0 : (a1 == 4) = false := beq_eq_false_iff_ne.mpr c14
       have c14b1 : (a1 != 4) = true := bne_iff_ne.mpr c14
       (first | rw [c14b0] | (simp only [i64_w, i32_w]; rw [c14b0]) | skip)
       by_cases c15 : a1 = 6
       ·rw [if_pos c15] at H
        have c15b0 : (a1 == 6) = true := beq_iff_eq.mpr c15
        have c15b1 : (a1 != 6) = false := bne_eq_false_iff_eq.mpr c15
        clear c15
        as_aux_lemma =>
         have H' := mkA H
         clear H
         go_wp2
         go_meet
         case rel => exact ⟨_, (true), (by first | rfl | (simp; done) | (simp [*]; done)), H', ⟨by have := HJ2.out; first | omega | exact Nat.le_refl _⟩, by repeat (first | exact Drawn0.refl _ | apply Drawn0.step)⟩
       ·rw [if_neg c15] at H
        have c15b0 : (a1 == 6) = false := beq_eq_false_iff_ne.mpr c15
        have c15b1 : (a1 != 6) = true := bne_iff_ne.mpr c15
        by_cases c16 : a1 = 9
        ·rw [if_pos c16] at H
         have c16b0 : (a1 == 9) = true := beq_iff_eq.mpr c16
         have c16b1 : (a1 != 9) = false := bne_eq_false_iff_eq.mpr c16
         clear c16
         as_aux_lemma =>
          have H' := mkA H
          clear H
          go_wp2
          go_meet
          case rel => exact ⟨_, (true), (by first | rfl | (simp; done) | (simp [*]; done)), H', ⟨by have := HJ2.out; first | omega | exact Nat.le_refl _⟩, by repeat (first | exact Drawn0.refl _ | apply Drawn0.step)⟩
        ·rw [if_neg c16] at H
         have c16b0 : (a1 == 9) = false := beq_eq_false_iff_ne.mpr c16
         have c16b1 : (a1 != 9) = true := bne_iff_ne.mpr c16
         as_aux_lemma =>
          have H' := mkA H
          clear H
          go_wp2
          go_meet
          case rel => exact ⟨_, ((a1 == 11)), (by first | rfl | (simp; done) | (simp [*]; done)), H', ⟨by have := HJ2.out; first | omega | exact Nat.le_refl _⟩, by repeat (first | exact Drawn0.refl _ | apply Drawn0.step)⟩
     case rest =>
      clear HC13
      try clear c1
      try clear c2
      try clear p2
      try clear c4
      try clear c4b0
      try clear c5
      try clear c5b0
      try clear c6
      try clear c6b0
      try clear c7
      try clear c8
      try clear c8b0
      try clear c8b1
      try clear c10
      try clear c10b0
      try clear c10b1
      try clear c11
      try clear c11b0
      try clear c11b1
      try clear c12
      try clear c14
      try clear c14b0
      try clear c14b1
      try clear c15
      try clear c15b0
      try clear c15b1
      try clear c16
      try clear c16b0
      try clear c16b1
      try clear p2
      obtain ⟨kq, x47_12, rfl, HA, HJ12, ⟨mc12, rfl⟩⟩ := hcut
      cases kq with
      | zero => exact absurd HA.out (by simp [newsreelref17_Days.j2])
      | succ kj12 =>
       have H := HA.out
       clear HA
       simp only [newsreelref17_Days.j2] at H
       by_cases c17 : x47_12 = true
       ·subst c17
        have H1 : (some 30) = some r := by rw [if_pos rfl] at H; exact H
        clear H
        have H := H1
        clear H1
        as_aux_lemma =>
         obtain rfl := Option.some.inj H
         go_wp2
         go_ret
         exact ⟨by first | rfl | (simp; done) | (simp [*]; done), by repeat (first | exact Drawn0.refl _ | apply Drawn0.step)⟩
       ·replace c17 := Bool.eq_false_iff.mpr c17
        subst c17
        have H1 : (some 31) = some r := by rw [if_neg (show ¬ (false = true) by decide)] at H; exact H
        clear H
        have H := H1
        clear H1
        as_aux_lemma =>
         obtain rfl := Option.some.inj H
         go_wp2
         go_ret
         exact ⟨by first | rfl | (simp; done) | (simp [*]; done), by repeat (first | exact Drawn0.refl _ | apply Drawn0.step)⟩

/-! ### newsreelref17_Fields: function 38 -/
mutual
def newsreelref17_Fields.l0 : Nat → ByteArray → List ByteArray → ByteArray → Int → Option (List ByteArray)
 | 0, _, _, _, _ => none
 | k + 1, x0, x3, x4, x5 => if x5 < (x0.size : Int) then (if 0 ≤ x5 then (if (bt x0 x5) = 32 then (newsreelref17_Fields.j1 k x0 x3 x4 x5 false) else (newsreelref17_Fields.j1 k x0 x3 x4 x5 ((bt x0 x5) != 9))) else (none)) else (if x4.toList = ([] : List UInt8) then (some x3) else (if x3.length < 8796093022208 then (some (x3 ++ [x4])) else (none)))
def newsreelref17_Fields.j1 : Nat → ByteArray → List ByteArray → ByteArray → Int → Bool → Option (List ByteArray)
 | 0, _, _, _, _, _ => none
 | k + 1, x0, x3, x4, x5, x22 => if x22 = true then (if 0 ≤ x5 then (if x5 ≤ (wrap64 (x5 + 1)) then (if (wrap64 (x5 + 1)) ≤ (x0.size : Int) then (if x4.size + (x0.extract (x5 : Int).toNat ((wrap64 (x5 + 1)) : Int).toNat).size ≤ 9223372036854775807 then (newsreelref17_Fields.l0 k x0 x3 (x4 ++ (x0.extract (x5 : Int).toNat ((wrap64 (x5 + 1)) : Int).toNat)) (wrap64 (x5 + 1))) else (none)) else (none)) else (none)) else (none)) else (if x4.toList = ([] : List UInt8) then (newsreelref17_Fields.l0 k x0 x3 x4 (wrap64 (x5 + 1))) else (if x3.length < 8796093022208 then (newsreelref17_Fields.l0 k x0 (x3 ++ [x4]) (⟨#[]⟩ : ByteArray) (wrap64 (x5 + 1))) else (none)))
end
def newsreelref17_Fields.f (k : Nat) (a0 : ByteArray) : Option (List ByteArray) := newsreelref17_Fields.l0 k a0 (([] : List ByteArray)) (⟨#[]⟩ : ByteArray) 0
theorem newsreelref17_Fields.mono_l : ∀ k, (∀ y0 y1 y2 y3, LeO (newsreelref17_Fields.l0 k y0 y1 y2 y3) (newsreelref17_Fields.l0 (k + 1) y0 y1 y2 y3)) ∧ (∀ y0 y1 y2 y3 y4, LeO (newsreelref17_Fields.j1 k y0 y1 y2 y3 y4) (newsreelref17_Fields.j1 (k + 1) y0 y1 y2 y3 y4))
 | 0 => ⟨fun _ _ _ _ r h => by simp [newsreelref17_Fields.l0] at h, fun _ _ _ _ _ r h => by simp [newsreelref17_Fields.j1] at h⟩
 | k + 1 => by
  obtain ⟨ih0, ih1⟩ := newsreelref17_Fields.mono_l k
  refine ⟨?_, ?_⟩
  ·intro y0 y1 y2 y3
   unfold newsreelref17_Fields.l0
   repeat' first
   | (with_reducible exact ih0 _ _ _ _)
   | (with_reducible exact ih1 _ _ _ _ _)
   | (with_reducible exact LeO.refl _)
   | (with_reducible exact LeO.none _)
   | (with_reducible refine LeO.ite ?_ ?_)
   | (with_reducible refine LeO.bind ?_ (fun _ => ?_))
   | exact ih0 _ _ _ _
   | exact ih1 _ _ _ _ _
   | exact LeO.none _
   | refine LeO.ite ?_ ?_
   | refine LeO.bind ?_ (fun _ => ?_)
  ·intro y0 y1 y2 y3 y4
   unfold newsreelref17_Fields.j1
   repeat' first
   | (with_reducible exact ih0 _ _ _ _)
   | (with_reducible exact ih1 _ _ _ _ _)
   | (with_reducible exact LeO.refl _)
   | (with_reducible exact LeO.none _)
   | (with_reducible refine LeO.ite ?_ ?_)
   | (with_reducible refine LeO.bind ?_ (fun _ => ?_))
   | exact ih0 _ _ _ _
   | exact ih1 _ _ _ _ _
   | exact LeO.none _
   | refine LeO.ite ?_ ?_
   | refine LeO.bind ?_ (fun _ => ?_)
theorem newsreelref17_Fields.mono : ∀ a0 k, LeO (newsreelref17_Fields.f k a0) (newsreelref17_Fields.f (k + 1) a0) := by
 intro a0 k
 obtain ⟨ih0, ih1⟩ := newsreelref17_Fields.mono_l k
 unfold newsreelref17_Fields.f
 repeat' first
   | (with_reducible exact ih0 _ _ _ _)
   | (with_reducible exact ih1 _ _ _ _ _)
   | (with_reducible exact LeO.refl _)
   | (with_reducible exact LeO.none _)
   | (with_reducible refine LeO.ite ?_ ?_)
   | (with_reducible refine LeO.bind ?_ (fun _ => ?_))
   | exact ih0 _ _ _ _
   | exact ih1 _ _ _ _ _
   | exact LeO.none _
   | refine LeO.ite ?_ ?_
   | refine LeO.bind ?_ (fun _ => ?_)
set_option maxHeartbeats 8000000 in
set_option maxRecDepth 100000 in
theorem newsreelref17_Fields.calls (k : Nat) (a0 : ByteArray) (r : List ByteArray) (w : World) (h : newsreelref17_Fields.f k a0 = some r) :
  Calls Tryd.prog 38 #[.string a0] w fun e w' => ∃ v0_ : Value, e = .returned (v0_) ∧ Kd.R Kd.string 9 w' w.heap.size (fun _ => True) v0_ r ∧ Below w.heap.size w w' := by
 have HB := mkA (Below.refl w.heap.size w)
 have H : (newsreelref17_Fields.l0 k a0 (([] : List ByteArray)) (⟨#[]⟩ : ByteArray) 0) = some r := h
 clear h
 obtain ⟨y236, hy236⟩ : ∃ y_ : List ByteArray, y_ = (([] : List ByteArray)) := ⟨_, rfl⟩
 replace H : (newsreelref17_Fields.l0 k a0 y236 (⟨#[]⟩ : ByteArray) 0) = some r := by first | (rw [hy236]; with_reducible exact H) | (have H2_ := (Option.bind_some _ _).symm.trans H; rw [hy236]; with_reducible exact H2_) | (have H2_ := (Option.bind_some _ _).symm.trans H; with_reducible exact H2_) | with_reducible exact H | (rw [hy236]; exact H) | exact H
 have Ny236 := mkA hy236
 clear hy236
 have H' := mkA H
 clear H
 go_enter Tryd.func38, Tryd.ntmps38
 go_wp2_with (first | ((with_reducible refine gate_dst (N := 6) rfl ?_); refine Kd.R_lit Kd.string _ 9 ?hg (N := 6) ?hd (xs := ([] : List ByteArray)) (inner := []) (ok := fun _ => True) (okp := fun _ => True) ?hr ?hp (fun _ hk => hk) trivial (Below.refl _ _) (Nat.le_refl _) (by simp) ?_; (case hd => rfl); (case hg => rfl); (case hr => first | (go_simp; done) | (go_simp; rfl)); (case hp => exact (Reps.none _ _)); intro v237 w2 ho3 hb hg_ hnew_; clear hg_ hnew_; (first | rw [← Ny236.out] at ho3 | (simp only [Int.reduceToNat] at ho3; rw [← Ny236.out] at ho3)); have n0_ := mkA (Kd.R_lower ho3 (below_size (below_y HB.out))); have n1_ := mkA (below_step (below_y HB.out) hb); clear HB; have HO238 := n0_; have HB := n1_; clear n0_ n1_; clear hb ho3))
 go_loopg [3, 4, 5] k (fun kq v3 v4 v5 w' => ∃ (x3_1 : List ByteArray) (x4_1 : ByteArray) (x5_1 : Int), v4 = .string x4_1 ∧ v5 = .int .i64 x5_1 ∧ Aside0 (newsreelref17_Fields.l0 kq a0 x3_1 x4_1 x5_1 = some r) ∧ Aside0 (kq ≤ k) ∧ Aside0 (Kd.R Kd.string 9 w' w.heap.size (fun _ => True) v3 x3_1) ∧ Aside0 (Below w.heap.size w w'))
 case atStart => exact ⟨(y236), ((⟨#[]⟩ : ByteArray)), (0), (by first | rfl | (simp; done) | (simp [*]; done)), (by first | rfl | (simp; done) | (simp [*]; done)), H', ⟨Nat.le_refl _⟩, ⟨by (with_reducible repeat (first | apply Kd.R_alloc | apply Kd.R_drewN | apply Kd.R_drew)); exact HO238.out⟩, ⟨below_y HB.out⟩⟩
 case round =>
  clear H'
  try clear p2
  try clear c3
  obtain ⟨x3_1, x4_1, x5_1, rfl, rfl, HA, HK1, HO_3, HB⟩ := hrel
  cases gk with
  | zero => exact absurd HA.out (by simp [newsreelref17_Fields.l0])
  | succ k1 =>
   have H := HA.out
   clear HA
   simp only [newsreelref17_Fields.l0] at H
   by_cases c4 : x5_1 < (a0.size : Int)
   ·rw [if_pos c4] at H
    have c4b0 : decide (x5_1 < (a0.size : Int)) = true := decide_eq_true c4
    clear c4
    have HC5 := mkA H
    clear H
    go_upto_region 6 with (fail)
    go_cut [22] (fun v22 wc => ∃ (kq : Nat) (x22_4 : Bool), v22 = .bool x22_4 ∧ Aside0 (newsreelref17_Fields.j1 kq a0 x3_1 x4_1 x5_1 x22_4 = some r) ∧ Aside0 (kq ≤ k1) ∧ Aside0 (Kd.R Kd.string 9 wc w.heap.size (fun _ => True) u3 x3_1) ∧ Aside0 (Below w.heap.size w wc))
    case first =>
     have H := HC5.out
     clear HC5
     by_cases c6 : 0 ≤ x5_1
     ·rw [if_pos c6] at H
      have c6b0 : decide (0 ≤ x5_1) = true := decide_eq_true c6
      clear c6
      (first | rw [c6b0] | (simp only [i64_w, i32_w]; rw [c6b0]) | skip)
      by_cases c8 : (bt a0 x5_1) = 32
      ·rw [if_pos c8] at H
       have c8b0 : ((bt a0 x5_1) == 32) = true := beq_iff_eq.mpr c8
       have c8b1 : ((bt a0 x5_1) != 32) = false := bne_eq_false_iff_eq.mpr c8
       clear c8
       as_aux_lemma =>
        have H' := mkA H
        clear H
        have p7 : 0 ≤ (x5_1 : Int) := odt
        have q7 : x5_1 < (a0.size : Int) := odt
        have hx7 := bt_at a0 x5_1
        replace p7 := eq_true p7
        replace q7 := eq_true q7
        go_wp2
        go_meet
        case rel => exact ⟨_, (false), (by first | rfl | (simp; done) | (simp [*]; done)), H', ⟨by have := HK1.out; first | omega | exact Nat.le_refl _⟩, ⟨by (with_reducible repeat (first | apply Kd.R_alloc | apply Kd.R_drewN | apply Kd.R_drew)); exact HO_3.out⟩, ⟨below_y HB.out⟩⟩
      ·rw [if_neg c8] at H
       have c8b0 : ((bt a0 x5_1) == 32) = false := beq_eq_false_iff_ne.mpr c8
       have c8b1 : ((bt a0 x5_1) != 32) = true := bne_iff_ne.mpr c8
       as_aux_lemma =>
        have H' := mkA H
        clear H
        have p7 : 0 ≤ (x5_1 : Int) := odt
        have q7 : x5_1 < (a0.size : Int) := odt
        have hx7 := bt_at a0 x5_1
        replace p7 := eq_true p7
        replace q7 := eq_true q7
        have p9 : 0 ≤ (x5_1 : Int) := odt
        have q9 : x5_1 < (a0.size : Int) := odt
        have hx9 := bt_at a0 x5_1
        replace p9 := eq_true p9
        replace q9 := eq_true q9
        go_wp2
        go_meet
        case rel => exact ⟨_, (((bt a0 x5_1) != 9)), (by first | rfl | (simp; done) | (simp [*]; done)), H', ⟨by have := HK1.out; first | omega | exact Nat.le_refl _⟩, ⟨by (with_reducible repeat (first | apply Kd.R_alloc | apply Kd.R_drewN | apply Kd.R_drew)); exact HO_3.out⟩, ⟨below_y HB.out⟩⟩
     ·rw [if_neg c6] at H
      exact absurd H (by simp)
    case rest =>
     clear HC5
     try clear p2
     try clear c3
     try clear c4
     try clear c4b0
     try clear c6
     try clear c6b0
     try clear p7
     try clear q7
     try clear hx7
     try clear c8
     try clear c8b0
     try clear c8b1
     try clear p9
     try clear q9
     try clear hx9
     try clear p2
     try clear p7
     try clear p9
     try clear q7
     try clear q9
     obtain ⟨kq, x22_4, rfl, HA, HJ4, HO_3, HB⟩ := hcut
     cases kq with
     | zero => exact absurd HA.out (by simp [newsreelref17_Fields.j1])
     | succ kj4 =>
      have H := HA.out
      clear HA
      simp only [newsreelref17_Fields.j1] at H
      by_cases c10 : x22_4 = true
      ·subst c10
       have H1 : (if 0 ≤ x5_1 then (if x5_1 ≤ (wrap64 (x5_1 + 1)) then (if (wrap64 (x5_1 + 1)) ≤ (a0.size : Int) then (if x4_1.size + (a0.extract (x5_1 : Int).toNat ((wrap64 (x5_1 + 1)) : Int).toNat).size ≤ 9223372036854775807 then (newsreelref17_Fields.l0 kj4 a0 x3_1 (x4_1 ++ (a0.extract (x5_1 : Int).toNat ((wrap64 (x5_1 + 1)) : Int).toNat)) (wrap64 (x5_1 + 1))) else (none)) else (none)) else (none)) else (none)) = some r := by rw [if_pos rfl] at H; exact H
       clear H
       have H := H1
       clear H1
       by_cases c11 : 0 ≤ x5_1
       ·rw [if_pos c11] at H
        have c11b0 := eq_true c11
        have c11b1 : decide (0 ≤ x5_1) = true := decide_eq_true c11
        clear c11
        by_cases c12 : x5_1 ≤ (wrap64 (x5_1 + 1))
        ·rw [if_pos c12] at H
         have c12b0 := eq_true c12
         have c12b1 : decide (x5_1 ≤ (wrap64 (x5_1 + 1))) = true := decide_eq_true c12
         by_cases c13 : (wrap64 (x5_1 + 1)) ≤ (a0.size : Int)
         ·rw [if_pos c13] at H
          have c13b0 := eq_true c13
          have c13b1 : decide ((wrap64 (x5_1 + 1)) ≤ (a0.size : Int)) = true := decide_eq_true c13
          by_cases c14 : x4_1.size + (a0.extract (x5_1 : Int).toNat ((wrap64 (x5_1 + 1)) : Int).toNat).size ≤ 9223372036854775807
          ·rw [if_pos c14] at H
           have c14b0 := eq_true c14
           have c14b1 : decide (x4_1.size + (a0.extract (x5_1 : Int).toNat ((wrap64 (x5_1 + 1)) : Int).toNat).size ≤ 9223372036854775807) = true := decide_eq_true c14
           try have c14b2 : (9223372036854775807 < x4_1.size + (a0.extract (x5_1 : Int).toNat ((wrap64 (x5_1 + 1)) : Int).toNat).size) = False := eq_false (Nat.not_lt.2 c14)
           as_aux_lemma =>
            have H' := mkA H
            clear H
            go_wp2
            go_roundg kj4
            case measure => have := HK1.out; have := HJ4.out; omega
            case rel => exact ⟨(x3_1), (x4_1 ++ (a0.extract (x5_1 : Int).toNat ((wrap64 (x5_1 + 1)) : Int).toNat)), (wrap64 (x5_1 + 1)), (by first | rfl | (simp; done) | (simp [*]; done)), (by first | rfl | (simp; done) | (simp [*]; done)), H', ⟨by have := HK1.out; have := HJ4.out; omega⟩, ⟨by (with_reducible repeat (first | apply Kd.R_alloc | apply Kd.R_drewN | apply Kd.R_drew)); exact HO_3.out⟩, ⟨below_y HB.out⟩⟩
          ·rw [if_neg c14] at H
           exact absurd H (by simp)
         ·rw [if_neg c13] at H
          exact absurd H (by simp)
        ·rw [if_neg c12] at H
         exact absurd H (by simp)
       ·rw [if_neg c11] at H
        exact absurd H (by simp)
      ·replace c10 := Bool.eq_false_iff.mpr c10
       subst c10
       have H1 : (if x4_1.toList = ([] : List UInt8) then (newsreelref17_Fields.l0 kj4 a0 x3_1 x4_1 (wrap64 (x5_1 + 1))) else (if x3_1.length < 8796093022208 then (newsreelref17_Fields.l0 kj4 a0 (x3_1 ++ [x4_1]) (⟨#[]⟩ : ByteArray) (wrap64 (x5_1 + 1))) else (none))) = some r := by rw [if_neg (show ¬ (false = true) by decide)] at H; exact H
       clear H
       have H := H1
       clear H1
       by_cases c15 : x4_1.toList = ([] : List UInt8)
       ·rw [if_pos c15] at H
        have c15b0 : (x4_1.toList == ([] : List UInt8)) = true := beq_iff_eq.mpr c15
        have c15b1 : (x4_1.toList != ([] : List UInt8)) = false := bne_eq_false_iff_eq.mpr c15
        clear c15
        as_aux_lemma =>
         have H' := mkA H
         clear H
         go_wp2
         go_roundg kj4
         case measure => have := HK1.out; have := HJ4.out; omega
         case rel => exact ⟨(x3_1), (x4_1), (wrap64 (x5_1 + 1)), (by first | rfl | (simp; done) | (simp [*]; done)), (by first | rfl | (simp; done) | (simp [*]; done)), H', ⟨by have := HK1.out; have := HJ4.out; omega⟩, ⟨by (with_reducible repeat (first | apply Kd.R_alloc | apply Kd.R_drewN | apply Kd.R_drew)); exact HO_3.out⟩, ⟨below_y HB.out⟩⟩
       ·rw [if_neg c15] at H
        have c15b0 : (x4_1.toList == ([] : List UInt8)) = false := beq_eq_false_iff_ne.mpr c15
        have c15b1 : (x4_1.toList != ([] : List UInt8)) = true := bne_iff_ne.mpr c15
        by_cases c16 : x3_1.length < 8796093022208
        ·rw [if_pos c16] at H
         have LMc16 := mkA c16
         clear c16
         obtain ⟨y239, hy239⟩ : ∃ y_ : List ByteArray, y_ = (x3_1 ++ [x4_1]) := ⟨_, rfl⟩
         replace H : (newsreelref17_Fields.l0 kj4 a0 y239 (⟨#[]⟩ : ByteArray) (wrap64 (x5_1 + 1))) = some r := by first | (rw [hy239]; with_reducible exact H) | (have H2_ := (Option.bind_some _ _).symm.trans H; rw [hy239]; with_reducible exact H2_) | (have H2_ := (Option.bind_some _ _).symm.trans H; with_reducible exact H2_) | with_reducible exact H | (rw [hy239]; exact H) | exact H
         have Ny239 := mkA hy239
         clear hy239
         as_aux_lemma =>
          have H' := mkA H
          clear H
          go_wp2_with (first | ((with_reducible refine gate_builtin (b := .append) (xs := #[.tmp 32, .tmp 34]) rfl ?_); at_builtin; refine Kd.R_append Kd.string (w0 := w) w.heap.size rfl (.tmp 32) (.tmp 34) 35 9 (.string ⟨#[]⟩) 16 rfl Tryd.underlying35 info9 rfl (by decide) (by omega) u3 x3_1 x4_1 [.string x4_1] (fun _ => True) (fun _ => False) rfl rfl ?aP (fun _ hk => hk.elim) ?aF ?aO ?aB ?aS ?aL ?_; (case aP => exact rfl); (case aB => exact (below_y HB.out)); (case aF => exact (fun _ _ => trivial)); (case aO => exact (Kd.R_y HO_3.out)); (case aS => exact (below_size (below_y HB.out))); (case aL => have := LMc16.out; omega); intro v240 w17 ho hb hg hat; rw [← Ny239.out] at ho; have n0_ := mkA (hb); have n1_ := mkA (ho); clear HB; clear HO_3; have HB := n0_; have HO241 := n1_; clear n0_ n1_; clear ho hb hg hat))
          go_roundg kj4
          case measure => have := HK1.out; have := HJ4.out; omega
          case rel => exact ⟨(y239), ((⟨#[]⟩ : ByteArray)), (wrap64 (x5_1 + 1)), (by first | rfl | (simp; done) | (simp [*]; done)), (by first | rfl | (simp; done) | (simp [*]; done)), H', ⟨by have := HK1.out; have := HJ4.out; omega⟩, ⟨by (with_reducible repeat (first | apply Kd.R_alloc | apply Kd.R_drewN | apply Kd.R_drew)); exact HO241.out⟩, ⟨below_y HB.out⟩⟩
        ·rw [if_neg c16] at H
         exact absurd H (by simp)
   ·rw [if_neg c4] at H
    have c4b0 : decide (x5_1 < (a0.size : Int)) = false := decide_eq_false c4
    clear c4
    by_cases c18 : x4_1.toList = ([] : List UInt8)
    ·rw [if_pos c18] at H
     have c18b0 : (x4_1.toList == ([] : List UInt8)) = true := beq_iff_eq.mpr c18
     have c18b1 : (x4_1.toList != ([] : List UInt8)) = false := bne_eq_false_iff_eq.mpr c18
     clear c18
     as_aux_lemma =>
      obtain rfl := Option.some.inj H
      go_wp2
      go_ret
      exact ⟨_, by first | rfl | (simp [errW_none, errW_some] <;> rfl) | (simp [*, errW_none, errW_some] <;> rfl), by (with_reducible repeat (first | apply Kd.R_alloc | apply Kd.R_drewN | apply Kd.R_drew)); exact HO_3.out, below_y HB.out⟩
    ·rw [if_neg c18] at H
     have c18b0 : (x4_1.toList == ([] : List UInt8)) = false := beq_eq_false_iff_ne.mpr c18
     have c18b1 : (x4_1.toList != ([] : List UInt8)) = true := bne_iff_ne.mpr c18
     by_cases c19 : x3_1.length < 8796093022208
     ·rw [if_pos c19] at H
      have LMc19 := mkA c19
      clear c19
      obtain ⟨y242, hy242⟩ : ∃ y_ : List ByteArray, y_ = (x3_1 ++ [x4_1]) := ⟨_, rfl⟩
      replace H : (some y242) = some r := by first | (rw [hy242]; with_reducible exact H) | (have H2_ := (Option.bind_some _ _).symm.trans H; rw [hy242]; with_reducible exact H2_) | (have H2_ := (Option.bind_some _ _).symm.trans H; with_reducible exact H2_) | with_reducible exact H | (rw [hy242]; exact H) | exact H
      have Ny242 := mkA hy242
      clear hy242
      as_aux_lemma =>
       obtain rfl := Option.some.inj H
       go_wp2_with (first | ((with_reducible refine gate_builtin (b := .append) (xs := #[.tmp 38, .tmp 40]) rfl ?_); at_builtin; refine Kd.R_append Kd.string (w0 := w) w.heap.size rfl (.tmp 38) (.tmp 40) 35 9 (.string ⟨#[]⟩) 16 rfl Tryd.underlying35 info9 rfl (by decide) (by omega) u3 x3_1 x4_1 [.string x4_1] (fun _ => True) (fun _ => False) rfl rfl ?aP (fun _ hk => hk.elim) ?aF ?aO ?aB ?aS ?aL ?_; (case aP => exact rfl); (case aB => exact (below_y HB.out)); (case aF => exact (fun _ _ => trivial)); (case aO => exact (Kd.R_y HO_3.out)); (case aS => exact (below_size (below_y HB.out))); (case aL => have := LMc19.out; omega); intro v243 w20 ho hb hg hat; rw [← Ny242.out] at ho; have n0_ := mkA (hb); have n1_ := mkA (ho); clear HB; clear HO_3; have HB := n0_; have HO244 := n1_; clear n0_ n1_; clear ho hb hg hat))
       go_ret
       exact ⟨_, by first | rfl | (simp [errW_none, errW_some] <;> rfl) | (simp [*, errW_none, errW_some] <;> rfl), by (with_reducible repeat (first | apply Kd.R_alloc | apply Kd.R_drewN | apply Kd.R_drew)); exact HO244.out, below_y HB.out⟩
     ·rw [if_neg c19] at H
      exact absurd H (by simp)

/-! ### newsreelref17_names: function 25 -/
def newsreelref17_names.f (a0 : Bool) : Option (List ByteArray) := if a0 = true then (some (([(⟨#[116, 104, 117]⟩ : ByteArray), (⟨#[102, 114, 105]⟩ : ByteArray), (⟨#[115, 97, 116]⟩ : ByteArray), (⟨#[115, 117, 110]⟩ : ByteArray), (⟨#[109, 111, 110]⟩ : ByteArray), (⟨#[116, 117, 101]⟩ : ByteArray), (⟨#[119, 101, 100]⟩ : ByteArray)] : List ByteArray))) else (some (([(⟨#[106, 97, 110]⟩ : ByteArray), (⟨#[102, 101, 98]⟩ : ByteArray), (⟨#[109, 97, 114]⟩ : ByteArray), (⟨#[97, 112, 114]⟩ : ByteArray), (⟨#[109, 97, 121]⟩ : ByteArray), (⟨#[106, 117, 110]⟩ : ByteArray), (⟨#[106, 117, 108]⟩ : ByteArray), (⟨#[97, 117, 103]⟩ : ByteArray), (⟨#[115, 101, 112]⟩ : ByteArray), (⟨#[111, 99, 116]⟩ : ByteArray), (⟨#[110, 111, 118]⟩ : ByteArray), (⟨#[100, 101, 99]⟩ : ByteArray)] : List ByteArray)))
set_option maxHeartbeats 8000000 in
set_option maxRecDepth 100000 in
theorem newsreelref17_names.calls (a0 : Bool) (r : List ByteArray) (w : World) (h : newsreelref17_names.f a0 = some r) :
  Calls Tryd.prog 25 #[.bool a0] w fun e w' => ∃ v0_ : Value, e = .returned (v0_) ∧ Kd.R Kd.string 9 w' w.heap.size (fun _ => True) v0_ r ∧ Below w.heap.size w w' := by
 have HB := mkA (Below.refl w.heap.size w)
 have H : (if a0 = true then (some (([(⟨#[116, 104, 117]⟩ : ByteArray), (⟨#[102, 114, 105]⟩ : ByteArray), (⟨#[115, 97, 116]⟩ : ByteArray), (⟨#[115, 117, 110]⟩ : ByteArray), (⟨#[109, 111, 110]⟩ : ByteArray), (⟨#[116, 117, 101]⟩ : ByteArray), (⟨#[119, 101, 100]⟩ : ByteArray)] : List ByteArray))) else (some (([(⟨#[106, 97, 110]⟩ : ByteArray), (⟨#[102, 101, 98]⟩ : ByteArray), (⟨#[109, 97, 114]⟩ : ByteArray), (⟨#[97, 112, 114]⟩ : ByteArray), (⟨#[109, 97, 121]⟩ : ByteArray), (⟨#[106, 117, 110]⟩ : ByteArray), (⟨#[106, 117, 108]⟩ : ByteArray), (⟨#[97, 117, 103]⟩ : ByteArray), (⟨#[115, 101, 112]⟩ : ByteArray), (⟨#[111, 99, 116]⟩ : ByteArray), (⟨#[110, 111, 118]⟩ : ByteArray), (⟨#[100, 101, 99]⟩ : ByteArray)] : List ByteArray)))) = some r := h
 clear h
 by_cases c2 : a0 = true
 ·subst c2
  have H1 : (some (([(⟨#[116, 104, 117]⟩ : ByteArray), (⟨#[102, 114, 105]⟩ : ByteArray), (⟨#[115, 97, 116]⟩ : ByteArray), (⟨#[115, 117, 110]⟩ : ByteArray), (⟨#[109, 111, 110]⟩ : ByteArray), (⟨#[116, 117, 101]⟩ : ByteArray), (⟨#[119, 101, 100]⟩ : ByteArray)] : List ByteArray))) = some r := by rw [if_pos rfl] at H; exact H
  clear H
  have H := H1
  clear H1
  obtain ⟨y245, hy245⟩ : ∃ y_ : List ByteArray, y_ = (([(⟨#[116, 104, 117]⟩ : ByteArray), (⟨#[102, 114, 105]⟩ : ByteArray), (⟨#[115, 97, 116]⟩ : ByteArray), (⟨#[115, 117, 110]⟩ : ByteArray), (⟨#[109, 111, 110]⟩ : ByteArray), (⟨#[116, 117, 101]⟩ : ByteArray), (⟨#[119, 101, 100]⟩ : ByteArray)] : List ByteArray)) := ⟨_, rfl⟩
  replace H : (some y245) = some r := by first | (rw [hy245]; with_reducible exact H) | (have H2_ := (Option.bind_some _ _).symm.trans H; rw [hy245]; with_reducible exact H2_) | (have H2_ := (Option.bind_some _ _).symm.trans H; with_reducible exact H2_) | with_reducible exact H | (rw [hy245]; exact H) | exact H
  have Ny245 := mkA hy245
  clear hy245
  obtain rfl := Option.some.inj H
  go_enter Tryd.func25, Tryd.ntmps25
  go_wp2_with (first | ((with_reducible refine gate_dst (N := 4) rfl ?_); refine Kd.R_lit Kd.string _ 9 ?hg (N := 4) ?hd (xs := ([(⟨#[116, 104, 117]⟩ : ByteArray), (⟨#[102, 114, 105]⟩ : ByteArray), (⟨#[115, 97, 116]⟩ : ByteArray), (⟨#[115, 117, 110]⟩ : ByteArray), (⟨#[109, 111, 110]⟩ : ByteArray), (⟨#[116, 117, 101]⟩ : ByteArray), (⟨#[119, 101, 100]⟩ : ByteArray)] : List ByteArray)) (inner := [.string (⟨#[116, 104, 117]⟩ : ByteArray), .string (⟨#[102, 114, 105]⟩ : ByteArray), .string (⟨#[115, 97, 116]⟩ : ByteArray), .string (⟨#[115, 117, 110]⟩ : ByteArray), .string (⟨#[109, 111, 110]⟩ : ByteArray), .string (⟨#[116, 117, 101]⟩ : ByteArray), .string (⟨#[119, 101, 100]⟩ : ByteArray)]) (ok := fun _ => True) (okp := fun _ => True) ?hr ?hp (fun _ hk => hk) trivial (Below.refl _ _) (Nat.le_refl _) (by simp) ?_; (case hd => rfl); (case hg => rfl); (case hr => first | (go_simp; done) | (go_simp; rfl)); (case hp => exact (Reps.one (show Kd.M Kd.string _ _ _ (⟨#[116, 104, 117]⟩ : ByteArray) [.string (⟨#[116, 104, 117]⟩ : ByteArray)] from rfl) (Reps.one (show Kd.M Kd.string _ _ _ (⟨#[102, 114, 105]⟩ : ByteArray) [.string (⟨#[102, 114, 105]⟩ : ByteArray)] from rfl) (Reps.one (show Kd.M Kd.string _ _ _ (⟨#[115, 97, 116]⟩ : ByteArray) [.string (⟨#[115, 97, 116]⟩ : ByteArray)] from rfl) (Reps.one (show Kd.M Kd.string _ _ _ (⟨#[115, 117, 110]⟩ : ByteArray) [.string (⟨#[115, 117, 110]⟩ : ByteArray)] from rfl) (Reps.one (show Kd.M Kd.string _ _ _ (⟨#[109, 111, 110]⟩ : ByteArray) [.string (⟨#[109, 111, 110]⟩ : ByteArray)] from rfl) (Reps.one (show Kd.M Kd.string _ _ _ (⟨#[116, 117, 101]⟩ : ByteArray) [.string (⟨#[116, 117, 101]⟩ : ByteArray)] from rfl) (Reps.one (show Kd.M Kd.string _ _ _ (⟨#[119, 101, 100]⟩ : ByteArray) [.string (⟨#[119, 101, 100]⟩ : ByteArray)] from rfl) (Reps.none _ _))))))))); intro v246 w3 ho4 hb hg_ hnew_; clear hg_ hnew_; (first | rw [← Ny245.out] at ho4 | (simp only [Int.reduceToNat] at ho4; rw [← Ny245.out] at ho4)); have n0_ := mkA (Kd.R_lower ho4 (below_size (below_y HB.out))); have n1_ := mkA (below_step (below_y HB.out) hb); clear HB; have HO247 := n0_; have HB := n1_; clear n0_ n1_; clear hb ho4))
  go_ret
  exact ⟨_, by first | rfl | (simp [errW_none, errW_some] <;> rfl) | (simp [*, errW_none, errW_some] <;> rfl), by (with_reducible repeat (first | apply Kd.R_alloc | apply Kd.R_drewN | apply Kd.R_drew)); exact HO247.out, below_y HB.out⟩
 ·replace c2 := Bool.eq_false_iff.mpr c2
  subst c2
  have H1 : (some (([(⟨#[106, 97, 110]⟩ : ByteArray), (⟨#[102, 101, 98]⟩ : ByteArray), (⟨#[109, 97, 114]⟩ : ByteArray), (⟨#[97, 112, 114]⟩ : ByteArray), (⟨#[109, 97, 121]⟩ : ByteArray), (⟨#[106, 117, 110]⟩ : ByteArray), (⟨#[106, 117, 108]⟩ : ByteArray), (⟨#[97, 117, 103]⟩ : ByteArray), (⟨#[115, 101, 112]⟩ : ByteArray), (⟨#[111, 99, 116]⟩ : ByteArray), (⟨#[110, 111, 118]⟩ : ByteArray), (⟨#[100, 101, 99]⟩ : ByteArray)] : List ByteArray))) = some r := by rw [if_neg (show ¬ (false = true) by decide)] at H; exact H
  clear H
  have H := H1
  clear H1
  obtain ⟨y248, hy248⟩ : ∃ y_ : List ByteArray, y_ = (([(⟨#[106, 97, 110]⟩ : ByteArray), (⟨#[102, 101, 98]⟩ : ByteArray), (⟨#[109, 97, 114]⟩ : ByteArray), (⟨#[97, 112, 114]⟩ : ByteArray), (⟨#[109, 97, 121]⟩ : ByteArray), (⟨#[106, 117, 110]⟩ : ByteArray), (⟨#[106, 117, 108]⟩ : ByteArray), (⟨#[97, 117, 103]⟩ : ByteArray), (⟨#[115, 101, 112]⟩ : ByteArray), (⟨#[111, 99, 116]⟩ : ByteArray), (⟨#[110, 111, 118]⟩ : ByteArray), (⟨#[100, 101, 99]⟩ : ByteArray)] : List ByteArray)) := ⟨_, rfl⟩
  replace H : (some y248) = some r := by first | (rw [hy248]; with_reducible exact H) | (have H2_ := (Option.bind_some _ _).symm.trans H; rw [hy248]; with_reducible exact H2_) | (have H2_ := (Option.bind_some _ _).symm.trans H; with_reducible exact H2_) | with_reducible exact H | (rw [hy248]; exact H) | exact H
  have Ny248 := mkA hy248
  clear hy248
  obtain rfl := Option.some.inj H
  go_enter Tryd.func25, Tryd.ntmps25
  go_wp2_with (first | ((with_reducible refine gate_dst (N := 5) rfl ?_); refine Kd.R_lit Kd.string _ 9 ?hg (N := 5) ?hd (xs := ([(⟨#[106, 97, 110]⟩ : ByteArray), (⟨#[102, 101, 98]⟩ : ByteArray), (⟨#[109, 97, 114]⟩ : ByteArray), (⟨#[97, 112, 114]⟩ : ByteArray), (⟨#[109, 97, 121]⟩ : ByteArray), (⟨#[106, 117, 110]⟩ : ByteArray), (⟨#[106, 117, 108]⟩ : ByteArray), (⟨#[97, 117, 103]⟩ : ByteArray), (⟨#[115, 101, 112]⟩ : ByteArray), (⟨#[111, 99, 116]⟩ : ByteArray), (⟨#[110, 111, 118]⟩ : ByteArray), (⟨#[100, 101, 99]⟩ : ByteArray)] : List ByteArray)) (inner := [.string (⟨#[106, 97, 110]⟩ : ByteArray), .string (⟨#[102, 101, 98]⟩ : ByteArray), .string (⟨#[109, 97, 114]⟩ : ByteArray), .string (⟨#[97, 112, 114]⟩ : ByteArray), .string (⟨#[109, 97, 121]⟩ : ByteArray), .string (⟨#[106, 117, 110]⟩ : ByteArray), .string (⟨#[106, 117, 108]⟩ : ByteArray), .string (⟨#[97, 117, 103]⟩ : ByteArray), .string (⟨#[115, 101, 112]⟩ : ByteArray), .string (⟨#[111, 99, 116]⟩ : ByteArray), .string (⟨#[110, 111, 118]⟩ : ByteArray), .string (⟨#[100, 101, 99]⟩ : ByteArray)]) (ok := fun _ => True) (okp := fun _ => True) ?hr ?hp (fun _ hk => hk) trivial (Below.refl _ _) (Nat.le_refl _) (by simp) ?_; (case hd => rfl); (case hg => rfl); (case hr => first | (go_simp; done) | (go_simp; rfl)); (case hp => exact (Reps.one (show Kd.M Kd.string _ _ _ (⟨#[106, 97, 110]⟩ : ByteArray) [.string (⟨#[106, 97, 110]⟩ : ByteArray)] from rfl) (Reps.one (show Kd.M Kd.string _ _ _ (⟨#[102, 101, 98]⟩ : ByteArray) [.string (⟨#[102, 101, 98]⟩ : ByteArray)] from rfl) (Reps.one (show Kd.M Kd.string _ _ _ (⟨#[109, 97, 114]⟩ : ByteArray) [.string (⟨#[109, 97, 114]⟩ : ByteArray)] from rfl) (Reps.one (show Kd.M Kd.string _ _ _ (⟨#[97, 112, 114]⟩ : ByteArray) [.string (⟨#[97, 112, 114]⟩ : ByteArray)] from rfl) (Reps.one (show Kd.M Kd.string _ _ _ (⟨#[109, 97, 121]⟩ : ByteArray) [.string (⟨#[109, 97, 121]⟩ : ByteArray)] from rfl) (Reps.one (show Kd.M Kd.string _ _ _ (⟨#[106, 117, 110]⟩ : ByteArray) [.string (⟨#[106, 117, 110]⟩ : ByteArray)] from rfl) (Reps.one (show Kd.M Kd.string _ _ _ (⟨#[106, 117, 108]⟩ : ByteArray) [.string (⟨#[106, 117, 108]⟩ : ByteArray)] from rfl) (Reps.one (show Kd.M Kd.string _ _ _ (⟨#[97, 117, 103]⟩ : ByteArray) [.string (⟨#[97, 117, 103]⟩ : ByteArray)] from rfl) (Reps.one (show Kd.M Kd.string _ _ _ (⟨#[115, 101, 112]⟩ : ByteArray) [.string (⟨#[115, 101, 112]⟩ : ByteArray)] from rfl) (Reps.one (show Kd.M Kd.string _ _ _ (⟨#[111, 99, 116]⟩ : ByteArray) [.string (⟨#[111, 99, 116]⟩ : ByteArray)] from rfl) (Reps.one (show Kd.M Kd.string _ _ _ (⟨#[110, 111, 118]⟩ : ByteArray) [.string (⟨#[110, 111, 118]⟩ : ByteArray)] from rfl) (Reps.one (show Kd.M Kd.string _ _ _ (⟨#[100, 101, 99]⟩ : ByteArray) [.string (⟨#[100, 101, 99]⟩ : ByteArray)] from rfl) (Reps.none _ _)))))))))))))); intro v249 w5 ho6 hb hg_ hnew_; clear hg_ hnew_; (first | rw [← Ny248.out] at ho6 | (simp only [Int.reduceToNat] at ho6; rw [← Ny248.out] at ho6)); have n0_ := mkA (Kd.R_lower ho6 (below_size (below_y HB.out))); have n1_ := mkA (below_step (below_y HB.out) hb); clear HB; have HO250 := n0_; have HB := n1_; clear n0_ n1_; clear hb ho6))
  go_ret
  exact ⟨_, by first | rfl | (simp [errW_none, errW_some] <;> rfl) | (simp [*, errW_none, errW_some] <;> rfl), by (with_reducible repeat (first | apply Kd.R_alloc | apply Kd.R_drewN | apply Kd.R_drew)); exact HO250.out, below_y HB.out⟩

/-! ### newsreelref02_Lower: function 51 -/
mutual
def newsreelref02_Lower.l0 : Nat → ByteArray → List Int → Int → Option (ByteArray)
 | 0, _, _, _ => none
 | k + 1, x0, x3, x4 => if x4 < (x0.size : Int) then (if 0 ≤ x4 then (if (bt x0 x4) ≥ 65 then (newsreelref02_Lower.j1 k x0 x3 x4 (bt x0 x4) (decide ((bt x0 x4) ≤ 90))) else (newsreelref02_Lower.j1 k x0 x3 x4 (bt x0 x4) false)) else (none)) else (some (strOfNums x3))
def newsreelref02_Lower.j1 : Nat → ByteArray → List Int → Int → Int → Bool → Option (ByteArray)
 | 0, _, _, _, _, _ => none
 | k + 1, x0, x3, x4, x5, x21 => if x21 = true then (if x3.length < 140737488355328 then (newsreelref02_Lower.l0 k x0 (x3 ++ [(x5 + 32) % 256]) (wrap64 (x4 + 1))) else (none)) else (if x3.length < 140737488355328 then (newsreelref02_Lower.l0 k x0 (x3 ++ [x5]) (wrap64 (x4 + 1))) else (none))
end
def newsreelref02_Lower.f (k : Nat) (a0 : ByteArray) : Option (ByteArray) := newsreelref02_Lower.l0 k a0 (([] : List Int)) 0
theorem newsreelref02_Lower.mono_l : ∀ k, (∀ y0 y1 y2, LeO (newsreelref02_Lower.l0 k y0 y1 y2) (newsreelref02_Lower.l0 (k + 1) y0 y1 y2)) ∧ (∀ y0 y1 y2 y3 y4, LeO (newsreelref02_Lower.j1 k y0 y1 y2 y3 y4) (newsreelref02_Lower.j1 (k + 1) y0 y1 y2 y3 y4))
 | 0 => ⟨fun _ _ _ r h => by simp [newsreelref02_Lower.l0] at h, fun _ _ _ _ _ r h => by simp [newsreelref02_Lower.j1] at h⟩
 | k + 1 => by
  obtain ⟨ih0, ih1⟩ := newsreelref02_Lower.mono_l k
  refine ⟨?_, ?_⟩
  ·intro y0 y1 y2
   unfold newsreelref02_Lower.l0
   repeat' first
   | (with_reducible exact ih0 _ _ _)
   | (with_reducible exact ih1 _ _ _ _ _)
   | (with_reducible exact LeO.refl _)
   | (with_reducible exact LeO.none _)
   | (with_reducible refine LeO.ite ?_ ?_)
   | (with_reducible refine LeO.bind ?_ (fun _ => ?_))
   | exact ih0 _ _ _
   | exact ih1 _ _ _ _ _
   | exact LeO.none _
   | refine LeO.ite ?_ ?_
   | refine LeO.bind ?_ (fun _ => ?_)
  ·intro y0 y1 y2 y3 y4
   unfold newsreelref02_Lower.j1
   repeat' first
   | (with_reducible exact ih0 _ _ _)
   | (with_reducible exact ih1 _ _ _ _ _)
   | (with_reducible exact LeO.refl _)
   | (with_reducible exact LeO.none _)
   | (with_reducible refine LeO.ite ?_ ?_)
   | (with_reducible refine LeO.bind ?_ (fun _ => ?_))
   | exact ih0 _ _ _
   | exact ih1 _ _ _ _ _
   | exact LeO.none _
   | refine LeO.ite ?_ ?_
   | refine LeO.bind ?_ (fun _ => ?_)
theorem newsreelref02_Lower.mono : ∀ a0 k, LeO (newsreelref02_Lower.f k a0) (newsreelref02_Lower.f (k + 1) a0) := by
 intro a0 k
 obtain ⟨ih0, ih1⟩ := newsreelref02_Lower.mono_l k
 unfold newsreelref02_Lower.f
 repeat' first
   | (with_reducible exact ih0 _ _ _)
   | (with_reducible exact ih1 _ _ _ _ _)
   | (with_reducible exact LeO.refl _)
   | (with_reducible exact LeO.none _)
   | (with_reducible refine LeO.ite ?_ ?_)
   | (with_reducible refine LeO.bind ?_ (fun _ => ?_))
   | exact ih0 _ _ _
   | exact ih1 _ _ _ _ _
   | exact LeO.none _
   | refine LeO.ite ?_ ?_
   | refine LeO.bind ?_ (fun _ => ?_)
set_option maxHeartbeats 8000000 in
set_option maxRecDepth 100000 in
theorem newsreelref02_Lower.calls (k : Nat) (a0 : ByteArray) (r : ByteArray) (w : World) (h : newsreelref02_Lower.f k a0 = some r) :
  Calls Tryd.prog 51 #[.string a0] w fun e w' => e = .returned (.string r) ∧ Below w.heap.size w w' := by
 have HB := mkA (Below.refl w.heap.size w)
 have H : (newsreelref02_Lower.l0 k a0 (([] : List Int)) 0) = some r := h
 clear h
 obtain ⟨y251, hy251⟩ : ∃ y_ : List Int, y_ = (([] : List Int)) := ⟨_, rfl⟩
 replace H : (newsreelref02_Lower.l0 k a0 y251 0) = some r := by first | (rw [hy251]; with_reducible exact H) | (have H2_ := (Option.bind_some _ _).symm.trans H; rw [hy251]; with_reducible exact H2_) | (have H2_ := (Option.bind_some _ _).symm.trans H; with_reducible exact H2_) | with_reducible exact H | (rw [hy251]; exact H) | exact H
 have Ny251 := mkA hy251
 clear hy251
 have H' := mkA H
 clear H
 go_enter Tryd.func51, Tryd.ntmps51
 go_wp2_with (first | ((with_reducible refine gate_dst (N := 6) rfl ?_); refine Kd.R_lit (Kd.int .u8) _ 5 ?hg (N := 6) ?hd (xs := ([] : List Int)) (inner := []) (ok := fun _ => True) (okp := fun _ => True) ?hr ?hp (fun _ hk => hk) trivial (Below.refl _ _) (Nat.le_refl _) (by simp) ?_; (case hd => rfl); (case hg => rfl); (case hr => first | (go_simp; done) | (go_simp; rfl)); (case hp => exact (Reps.none _ _)); intro v252 w2 ho3 hb hg_ hnew_; clear hg_ hnew_; (first | rw [← Ny251.out] at ho3 | (simp only [Int.reduceToNat] at ho3; rw [← Ny251.out] at ho3)); have n0_ := mkA (Kd.R_lower ho3 (below_size (below_y HB.out))); have n1_ := mkA (below_step (below_y HB.out) hb); clear HB; have HO253 := n0_; have HB := n1_; clear n0_ n1_; clear hb ho3))
 go_loopg [3, 4] k (fun kq v3 v4 w' => ∃ (x3_1 : List Int) (x4_1 : Int), v4 = .int .i64 x4_1 ∧ Aside0 (newsreelref02_Lower.l0 kq a0 x3_1 x4_1 = some r) ∧ Aside0 (kq ≤ k) ∧ Aside0 (Kd.R (Kd.int .u8) 5 w' w.heap.size (fun _ => True) v3 x3_1) ∧ Aside0 (Below w.heap.size w w'))
 case atStart => exact ⟨(y251), (0), (by first | rfl | (simp; done) | (simp [*]; done)), H', ⟨Nat.le_refl _⟩, ⟨by (with_reducible repeat (first | apply Kd.R_alloc | apply Kd.R_drewN | apply Kd.R_drew)); exact HO253.out⟩, ⟨below_y HB.out⟩⟩
 case round =>
  clear H'
  try clear p2
  obtain ⟨x3_1, x4_1, rfl, HA, HK1, HO_3, HB⟩ := hrel
  cases gk with
  | zero => exact absurd HA.out (by simp [newsreelref02_Lower.l0])
  | succ k1 =>
   have H := HA.out
   clear HA
   simp only [newsreelref02_Lower.l0] at H
   by_cases c4 : x4_1 < (a0.size : Int)
   ·rw [if_pos c4] at H
    have c4b0 : decide (x4_1 < (a0.size : Int)) = true := decide_eq_true c4
    clear c4
    by_cases c5 : 0 ≤ x4_1
    ·rw [if_pos c5] at H
     have c5b0 : decide (0 ≤ x4_1) = true := decide_eq_true c5
     clear c5
     have HC7 := mkA H
     clear H
     have p6 : 0 ≤ (x4_1 : Int) := odt
     have q6 : x4_1 < (a0.size : Int) := odt
     have hx6 := bt_at a0 x4_1
     replace p6 := eq_true p6
     replace q6 := eq_true q6
     go_upto_region 6 with (fail)
     go_cut [21] (fun v21 wc => ∃ (kq : Nat) (x21_6 : Bool), v21 = .bool x21_6 ∧ Aside0 (newsreelref02_Lower.j1 kq a0 x3_1 x4_1 (bt a0 x4_1) x21_6 = some r) ∧ Aside0 (kq ≤ k1) ∧ Aside0 (Kd.R (Kd.int .u8) 5 wc w.heap.size (fun _ => True) u3 x3_1) ∧ Aside0 (Below w.heap.size w wc))
     case first =>
      have H := HC7.out
      clear HC7
      by_cases c8 : (bt a0 x4_1) ≥ 65
      ·rw [if_pos c8] at H
       have c8b0 : decide (65 ≤ (bt a0 x4_1)) = true := decide_eq_true c8
       clear c8
       (first | rw [c8b0] | (simp only [i64_w, i32_w]; rw [c8b0]) | skip)
       as_aux_lemma =>
        have H' := mkA H
        clear H
        go_wp2
        go_meet
        case rel => exact ⟨_, (decide ((bt a0 x4_1) ≤ 90)), (by first | rfl | (simp; done) | (simp [*]; done)), H', ⟨by have := HK1.out; first | omega | exact Nat.le_refl _⟩, ⟨by (with_reducible repeat (first | apply Kd.R_alloc | apply Kd.R_drewN | apply Kd.R_drew)); exact HO_3.out⟩, ⟨below_y HB.out⟩⟩
      ·rw [if_neg c8] at H
       have c8b0 : decide (65 ≤ (bt a0 x4_1)) = false := decide_eq_false c8
       clear c8
       (first | rw [c8b0] | (simp only [i64_w, i32_w]; rw [c8b0]) | skip)
       as_aux_lemma =>
        have H' := mkA H
        clear H
        go_wp2
        go_meet
        case rel => exact ⟨_, (false), (by first | rfl | (simp; done) | (simp [*]; done)), H', ⟨by have := HK1.out; first | omega | exact Nat.le_refl _⟩, ⟨by (with_reducible repeat (first | apply Kd.R_alloc | apply Kd.R_drewN | apply Kd.R_drew)); exact HO_3.out⟩, ⟨below_y HB.out⟩⟩
     case rest =>
      clear HC7
      try clear p2
      try clear c4
      try clear c4b0
      try clear c5
      try clear c5b0
      try clear p6
      try clear q6
      try clear hx6
      try clear c8
      try clear c8b0
      try clear p2
      try clear p6
      try clear q6
      obtain ⟨kq, x21_6, rfl, HA, HJ6, HO_3, HB⟩ := hcut
      cases kq with
      | zero => exact absurd HA.out (by simp [newsreelref02_Lower.j1])
      | succ kj6 =>
       have H := HA.out
       clear HA
       simp only [newsreelref02_Lower.j1] at H
       by_cases c9 : x21_6 = true
       ·subst c9
        have H1 : (if x3_1.length < 140737488355328 then (newsreelref02_Lower.l0 kj6 a0 (x3_1 ++ [((bt a0 x4_1) + 32) % 256]) (wrap64 (x4_1 + 1))) else (none)) = some r := by rw [if_pos rfl] at H; exact H
        clear H
        have H := H1
        clear H1
        by_cases c10 : x3_1.length < 140737488355328
        ·rw [if_pos c10] at H
         have LMc10 := mkA c10
         clear c10
         obtain ⟨y254, hy254⟩ : ∃ y_ : List Int, y_ = (x3_1 ++ [((bt a0 x4_1) + 32) % 256]) := ⟨_, rfl⟩
         replace H : (newsreelref02_Lower.l0 kj6 a0 y254 (wrap64 (x4_1 + 1))) = some r := by first | (rw [hy254]; with_reducible exact H) | (have H2_ := (Option.bind_some _ _).symm.trans H; rw [hy254]; with_reducible exact H2_) | (have H2_ := (Option.bind_some _ _).symm.trans H; with_reducible exact H2_) | with_reducible exact H | (rw [hy254]; exact H) | exact H
         have Ny254 := mkA hy254
         clear hy254
         as_aux_lemma =>
          have H' := mkA H
          clear H
          go_wp2_with (first | ((with_reducible refine gate_builtin (b := .append) (xs := #[.tmp 24, .tmp 26]) rfl ?_); at_builtin; refine Kd.R_append (Kd.int .u8) (w0 := w) w.heap.size rfl (.tmp 24) (.tmp 26) 33 5 (.int .u8 0) 1 rfl Tryd.underlying33 info5 rfl (by decide) (by omega) u3 x3_1 (((bt a0 x4_1) + 32) % 256) [.int .u8 (((bt a0 x4_1) + 32) % 256)] (fun _ => True) (fun _ => False) rfl rfl ?aP (fun _ hk => hk.elim) ?aF ?aO ?aB ?aS ?aL ?_; (case aP => exact rfl); (case aB => exact (below_y HB.out)); (case aF => exact (fun _ _ => trivial)); (case aO => exact (Kd.R_y HO_3.out)); (case aS => exact (below_size (below_y HB.out))); (case aL => have := LMc10.out; omega); intro v255 w11 ho hb hg hat; rw [← Ny254.out] at ho; have n0_ := mkA (hb); have n1_ := mkA (ho); clear HB; clear HO_3; have HB := n0_; have HO256 := n1_; clear n0_ n1_; clear ho hb hg hat))
          go_roundg kj6
          case measure => have := HK1.out; have := HJ6.out; omega
          case rel => exact ⟨(y254), (wrap64 (x4_1 + 1)), (by first | rfl | (simp; done) | (simp [*]; done)), H', ⟨by have := HK1.out; have := HJ6.out; omega⟩, ⟨by (with_reducible repeat (first | apply Kd.R_alloc | apply Kd.R_drewN | apply Kd.R_drew)); exact HO256.out⟩, ⟨below_y HB.out⟩⟩
        ·rw [if_neg c10] at H
         exact absurd H (by simp)
       ·replace c9 := Bool.eq_false_iff.mpr c9
        subst c9
        have H1 : (if x3_1.length < 140737488355328 then (newsreelref02_Lower.l0 kj6 a0 (x3_1 ++ [(bt a0 x4_1)]) (wrap64 (x4_1 + 1))) else (none)) = some r := by rw [if_neg (show ¬ (false = true) by decide)] at H; exact H
        clear H
        have H := H1
        clear H1
        by_cases c12 : x3_1.length < 140737488355328
        ·rw [if_pos c12] at H
         have LMc12 := mkA c12
         clear c12
         obtain ⟨y257, hy257⟩ : ∃ y_ : List Int, y_ = (x3_1 ++ [(bt a0 x4_1)]) := ⟨_, rfl⟩
         replace H : (newsreelref02_Lower.l0 kj6 a0 y257 (wrap64 (x4_1 + 1))) = some r := by first | (rw [hy257]; with_reducible exact H) | (have H2_ := (Option.bind_some _ _).symm.trans H; rw [hy257]; with_reducible exact H2_) | (have H2_ := (Option.bind_some _ _).symm.trans H; with_reducible exact H2_) | with_reducible exact H | (rw [hy257]; exact H) | exact H
         have Ny257 := mkA hy257
         clear hy257
         as_aux_lemma =>
          have H' := mkA H
          clear H
          go_wp2_with (first | ((with_reducible refine gate_builtin (b := .append) (xs := #[.tmp 24, .tmp 26]) rfl ?_); at_builtin; refine Kd.R_append (Kd.int .u8) (w0 := w) w.heap.size rfl (.tmp 24) (.tmp 26) 33 5 (.int .u8 0) 1 rfl Tryd.underlying33 info5 rfl (by decide) (by omega) u3 x3_1 (bt a0 x4_1) [.int .u8 (bt a0 x4_1)] (fun _ => True) (fun _ => False) rfl rfl ?aP (fun _ hk => hk.elim) ?aF ?aO ?aB ?aS ?aL ?_; (case aP => exact rfl); (case aB => exact (below_y HB.out)); (case aF => exact (fun _ _ => trivial)); (case aO => exact (Kd.R_y HO_3.out)); (case aS => exact (below_size (below_y HB.out))); (case aL => have := LMc12.out; omega); intro v258 w13 ho hb hg hat; rw [← Ny257.out] at ho; have n0_ := mkA (hb); have n1_ := mkA (ho); clear HB; clear HO_3; have HB := n0_; have HO259 := n1_; clear n0_ n1_; clear ho hb hg hat))
          go_roundg kj6
          case measure => have := HK1.out; have := HJ6.out; omega
          case rel => exact ⟨(y257), (wrap64 (x4_1 + 1)), (by first | rfl | (simp; done) | (simp [*]; done)), H', ⟨by have := HK1.out; have := HJ6.out; omega⟩, ⟨by (with_reducible repeat (first | apply Kd.R_alloc | apply Kd.R_drewN | apply Kd.R_drew)); exact HO259.out⟩, ⟨below_y HB.out⟩⟩
        ·rw [if_neg c12] at H
         exact absurd H (by simp)
    ·rw [if_neg c5] at H
     exact absurd H (by simp)
   ·rw [if_neg c4] at H
    have c4b0 : decide (x4_1 < (a0.size : Int)) = false := decide_eq_false c4
    clear c4
    as_aux_lemma =>
     obtain rfl := Option.some.inj H
     have hcv14 := own_string (P := Tryd.prog) Tryd.underlying33 Tryd.underlying5 Tryd.underlying9 (Kd.own_of_R HO_3.out)
     go_wp2
     go_ret
     exact ⟨by first | rfl | (simp [errW_none, errW_some] <;> rfl) | (simp [*, errW_none, errW_some] <;> rfl), below_y HB.out⟩

/-! ### newsreelref17_place: function 39 -/
def newsreelref17_place.l0 : Nat → ByteArray → List ByteArray → Int → Option (Int)
 | 0, _, _, _ => none
 | k + 1, x1, x5, x6 => if x6 < (x5.length : Int) then (if 0 ≤ x6 then ((newsreelref02_Lower.f k x1).bind fun t264 => (if (rdOf ByteArray.empty x5 x6).toList = t264.toList then (some x6) else (newsreelref17_place.l0 k x1 x5 (wrap64 (x6 + 1))))) else (none)) else (some (-1))
def newsreelref17_place.f (k : Nat) (a0 : Bool) (a1 : ByteArray) : Option (Int) := (newsreelref17_names.f a0).bind fun t260 => (newsreelref17_place.l0 k a1 t260 0)
theorem newsreelref17_place.mono_l : ∀ k, (∀ y0 y1 y2, LeO (newsreelref17_place.l0 k y0 y1 y2) (newsreelref17_place.l0 (k + 1) y0 y1 y2))
 | 0 => fun _ _ _ r h => by simp [newsreelref17_place.l0] at h
 | k + 1 => by
  have ih0 := newsreelref17_place.mono_l k
  ·intro y0 y1 y2
   unfold newsreelref17_place.l0
   repeat' first
   | (with_reducible exact ih0 _ _ _)
   | (with_reducible exact newsreelref02_Lower.mono _ _)
   | (with_reducible exact LeO.refl _)
   | (with_reducible exact LeO.none _)
   | (with_reducible refine LeO.ite ?_ ?_)
   | (with_reducible refine LeO.bind ?_ (fun _ => ?_))
   | exact ih0 _ _ _
   | exact newsreelref02_Lower.mono _ _
   | exact LeO.none _
   | refine LeO.ite ?_ ?_
   | refine LeO.bind ?_ (fun _ => ?_)
theorem newsreelref17_place.mono : ∀ a0 a1 k, LeO (newsreelref17_place.f k a0 a1) (newsreelref17_place.f (k + 1) a0 a1) := by
 intro a0 a1 k
 have ih0 := newsreelref17_place.mono_l k
 unfold newsreelref17_place.f
 repeat' first
   | (with_reducible exact ih0 _ _ _)
   | (with_reducible exact newsreelref02_Lower.mono _ _)
   | (with_reducible exact LeO.refl _)
   | (with_reducible exact LeO.none _)
   | (with_reducible refine LeO.ite ?_ ?_)
   | (with_reducible refine LeO.bind ?_ (fun _ => ?_))
   | exact ih0 _ _ _
   | exact newsreelref02_Lower.mono _ _
   | exact LeO.none _
   | refine LeO.ite ?_ ?_
   | refine LeO.bind ?_ (fun _ => ?_)
set_option maxHeartbeats 8000000 in
set_option maxRecDepth 100000 in
theorem newsreelref17_place.calls (k : Nat) (a0 : Bool) (a1 : ByteArray) (r : Int) (w : World) (h : newsreelref17_place.f k a0 a1 = some r) :
  Calls Tryd.prog 39 #[.bool a0, .string a1] w fun e w' => e = .returned (.int .i64 r) ∧ Below w.heap.size w w' := by
 have HB := mkA (Below.refl w.heap.size w)
 have H : ((newsreelref17_names.f a0).bind fun t260 => (newsreelref17_place.l0 k a1 t260 0)) = some r := h
 clear h
 replace H := Option.bind_eq_some_iff.mp H
 obtain ⟨t260, A30, H⟩ := H
 replace H : (newsreelref17_place.l0 k a1 t260 0) = some r := H
 have A3 := mkA A30
 clear A30
 have H' := mkA H
 clear H
 go_enter Tryd.func39, Tryd.ntmps39
 go_wp2_with (first | ((with_reducible refine gate_callee (f := 25) rfl ?_); refine goesL_ (some 8) rfl rfl Tryd.func25 (by kernel_rfl) rfl #[.bool a0] rfl ca ?_; (with_reducible refine (newsreelref17_names.calls a0 t260 _ A3.out).mono ?_); rintro e w4 ⟨v261, rfl, ho0, hb⟩; refine ⟨_, rfl, ?_⟩; have n0_ := mkA (Kd.R_lower ho0 (below_size (below_y HB.out))); have n1_ := mkA (below_step (below_y HB.out) hb); clear HB; have HO262 := n0_; have HB := n1_; clear n0_ n1_; (try clear hb); (try clear hb2); (try clear hk); (try clear hi); (try clear ho0)))
 go_loopg [6] k (fun kq v6 w' => ∃ (x6_1 : Int), v6 = .int .i64 x6_1 ∧ Aside0 (newsreelref17_place.l0 kq a1 t260 x6_1 = some r) ∧ Aside0 (kq ≤ k) ∧ Aside0 (Kd.R Kd.string 9 w' w.heap.size (fun _ => True) v261 t260) ∧ Aside0 (Below w.heap.size w w'))
 case atStart => exact ⟨(0), (by first | rfl | (simp; done) | (simp [*]; done)), H', ⟨Nat.le_refl _⟩, ⟨by (with_reducible repeat (first | apply Kd.R_alloc | apply Kd.R_drewN | apply Kd.R_drew)); exact HO262.out⟩, ⟨below_y HB.out⟩⟩
 case round =>
  clear H'
  try clear c2
  try clear p2
  try clear c3
  obtain ⟨x6_1, rfl, HA, HK1, HO_5, HB⟩ := hrel
  cases gk with
  | zero => exact absurd HA.out (by simp [newsreelref17_place.l0])
  | succ k1 =>
   have H := HA.out
   clear HA
   simp only [newsreelref17_place.l0] at H
   by_cases c5 : x6_1 < (t260.length : Int)
   ·rw [if_pos c5] at H
    have c5b0 : decide (x6_1 < (t260.length : Int)) = true := decide_eq_true c5
    clear c5
    by_cases c6 : 0 ≤ x6_1
    ·rw [if_pos c6] at H
     have c6b0 : decide (0 ≤ x6_1) = true := decide_eq_true c6
     clear c6
     replace H := Option.bind_eq_some_iff.mp H
     obtain ⟨t264, A70, H⟩ := H
     replace H : (if (rdOf ByteArray.empty t260 x6_1).toList = t264.toList then (some x6_1) else (newsreelref17_place.l0 k1 a1 t260 (wrap64 (x6_1 + 1)))) = some r := H
     have A7 := mkA A70
     clear A70
     by_cases c8 : (rdOf ByteArray.empty t260 x6_1).toList = t264.toList
     ·rw [if_pos c8] at H
      have c8b0 : ((rdOf ByteArray.empty t260 x6_1).toList == t264.toList) = true := beq_iff_eq.mpr c8
      have c8b1 : ((rdOf ByteArray.empty t260 x6_1).toList != t264.toList) = false := bne_eq_false_iff_eq.mpr c8
      clear c8
      as_aux_lemma =>
       obtain rfl := Option.some.inj H
       obtain ⟨Ao9, co9, eo9⟩ := Kd.R_slice HO_5.out
       subst eo9
       try go_wp2
       have n0_ := mkA (Kd.R_drew HO_5.out)
       have n1_ := mkA (below_drew1 HB.out)
       clear HO_5 HB
       have HO_5 := n0_
       have HB := n1_
       clear n0_ n1_
       have p263 : 0 ≤ (x6_1 : Int) := odt
       have q263 : x6_1 < (t260.length : Int) := odt
       obtain ⟨ad263, e263, hx263_0⟩ := Kd.at_string (Kd.R_reads' HO_5.out).2.2 x6_1 p263 q263
       cases e263
       replace p263 := eq_true p263
       replace q263 := eq_true q263
       refine start_ (n := 7) (S := fun w' => w'.cell? (ad263.add (x6_1).toNat) = some (.string (rdOf ByteArray.empty t260 x6_1))) (ds := []) #[false, false, false, false, false, false, false] (by kernel_rfl) rfl rfl (hx263_0) (fun hHeld => ?_)
       generalize wr.drew = w10 at HO_5 HB hx263_0 hHeld ⊢
       refine pure_ (i := 0) (N := some 15) (v := ?_) (a' := ?_) #[true, false, false, false, false, false, false] rfl rfl (by kernel_rfl) (fun _ _ _ h => h) (Or.inl ⟨by rfl, ?_⟩) ?_ ?_
       rotate_left
       ·intro w'
        go_simp
        with_reducible rfl
       rotate_left
       ·simp only [Act.put, sA, s0, sS, i64_w, i32_w]
        rfl
       refine pure_ (i := 1) (N := some 16) (v := ?_) (a' := ?_) #[true, true, false, false, false, false, false] rfl rfl (by kernel_rfl) (fun _ _ _ h => h) (Or.inl ⟨by rfl, ?_⟩) ?_ ?_
       rotate_left
       ·intro w'
        go_simp
        with_reducible rfl
       rotate_left
       ·simp only [Act.put, sA, s0, sS, i64_w, i32_w]
        rfl
       refine pure_ (i := 2) (N := some 17) (v := ?_) (a' := ?_) #[true, true, true, false, false, false, false] rfl rfl (by kernel_rfl) (fun _ _ _ h => h) (Or.inl ⟨by rfl, ?_⟩) ?_ ?_
       rotate_left
       ·intro w'
        go_simp
        with_reducible rfl
       rotate_left
       ·simp only [Act.put, sA, s0, sS, i64_w, i32_w]
        rfl
       refine pure_ (i := 4) (N := some 19) (v := ?_) (a' := ?_) #[true, true, true, false, true, false, false] rfl rfl (by kernel_rfl) (fun _ _ _ h => h) (Or.inl ⟨by rfl, ?_⟩) ?_ ?_
       rotate_left
       ·intro w'
        go_simp
        with_reducible rfl
       rotate_left
       ·simp only [Act.put, sA, s0, sS, i64_w, i32_w]
        rfl
       refine take_ (i := 3) (N := some 18) (v := ?_) (a' := ?_) #[true, true, true, true, true, false, false] rfl rfl (by kernel_rfl) (fun _ _ _ h => h) (Or.inl ⟨by rfl, ?_⟩) hHeld ?_ ?_
       rotate_left
       ·intro w' s0
        go_simp
        with_reducible rfl
       rotate_left
       ·simp only [Act.put, sA, s0, sS, i64_w, i32_w]
        rfl
       refine one_ (i := 5) (N := some 20) #[true, true, true, true, true, true, false] rfl rfl (by kernel_rfl) (by decide) (fun K hK => ?_)
       refine goes_ Tryd.func51 (by kernel_rfl) rfl #[.string a1] (by rfl) rfl rfl ca ?_
       with_reducible refine (newsreelref02_Lower.calls k1 a1 t264 _ A7.out).mono ?_
       rintro e w11 ⟨rfl, hb⟩
       have hbk_w11 := mkA hb
       have HS0_ := (hb.cell (World.block_lt_of_cell? _ _ (hHeld))).trans (hHeld)
       refine ⟨_, rfl, ?_⟩
       have n0_ := mkA (Kd.R_below (Kd.R_y HO_5.out) hb)
       have n1_ := mkA (below_step (below_y HB.out) hb)
       clear HO_5 HB
       have HO_5 := n0_
       have HB := n1_
       clear n0_ n1_
       (try clear hb)
       (try clear hb2)
       (try clear hk)
       (try clear hi)
       refine hK.out _ _ (HS0_) (fun hHeld => ?_)
       clear hK K
       refine norm_ (a' := ?_) ?_ ?_
       rotate_left
       ·show Act.put _ (some 20) _ = _
        simp only [Act.put, sA, s0, sS, i64_w, i32_w]
        rfl
       refine pure_ (i := 6) (N := some 21) (v := ?_) (a' := ?_) #[true, true, true, true, true, true, true] rfl rfl (by kernel_rfl) (fun _ _ _ h => h) (Or.inl ⟨by rfl, ?_⟩) ?_ ?_
       rotate_left
       ·intro w'
        go_simp
        with_reducible rfl
       rotate_left
       ·simp only [Act.put, sA, s0, sS, i64_w, i32_w]
        rfl
       refine done_ (by kernel_rfl) ?_
       try go_wp2
       go_ret
       exact ⟨by first | rfl | (simp [errW_none, errW_some] <;> rfl) | (simp [*, errW_none, errW_some] <;> rfl), below_y HB.out⟩
     ·rw [if_neg c8] at H
      have c8b0 : ((rdOf ByteArray.empty t260 x6_1).toList == t264.toList) = false := beq_eq_false_iff_ne.mpr c8
      have c8b1 : ((rdOf ByteArray.empty t260 x6_1).toList != t264.toList) = true := bne_iff_ne.mpr c8
      as_aux_lemma =>
       have H' := mkA H
       clear H
       obtain ⟨Ao12, co12, eo12⟩ := Kd.R_slice HO_5.out
       subst eo12
       try go_wp2
       have n0_ := mkA (Kd.R_drew HO_5.out)
       have n1_ := mkA (below_drew1 HB.out)
       clear HO_5 HB
       have HO_5 := n0_
       have HB := n1_
       clear n0_ n1_
       have p263 : 0 ≤ (x6_1 : Int) := odt
       have q263 : x6_1 < (t260.length : Int) := odt
       obtain ⟨ad263, e263, hx263_0⟩ := Kd.at_string (Kd.R_reads' HO_5.out).2.2 x6_1 p263 q263
       cases e263
       replace p263 := eq_true p263
       replace q263 := eq_true q263
       refine start_ (n := 7) (S := fun w' => w'.cell? (ad263.add (x6_1).toNat) = some (.string (rdOf ByteArray.empty t260 x6_1))) (ds := []) #[false, false, false, false, false, false, false] (by kernel_rfl) rfl rfl (hx263_0) (fun hHeld => ?_)
       generalize wr.drew = w13 at HO_5 HB hx263_0 hHeld ⊢
       refine pure_ (i := 0) (N := some 15) (v := ?_) (a' := ?_) #[true, false, false, false, false, false, false] rfl rfl (by kernel_rfl) (fun _ _ _ h => h) (Or.inl ⟨by rfl, ?_⟩) ?_ ?_
       rotate_left
       ·intro w'
        go_simp
        with_reducible rfl
       rotate_left
       ·simp only [Act.put, sA, s0, sS, i64_w, i32_w]
        rfl
       refine pure_ (i := 1) (N := some 16) (v := ?_) (a' := ?_) #[true, true, false, false, false, false, false] rfl rfl (by kernel_rfl) (fun _ _ _ h => h) (Or.inl ⟨by rfl, ?_⟩) ?_ ?_
       rotate_left
       ·intro w'
        go_simp
        with_reducible rfl
       rotate_left
       ·simp only [Act.put, sA, s0, sS, i64_w, i32_w]
        rfl
       refine pure_ (i := 2) (N := some 17) (v := ?_) (a' := ?_) #[true, true, true, false, false, false, false] rfl rfl (by kernel_rfl) (fun _ _ _ h => h) (Or.inl ⟨by rfl, ?_⟩) ?_ ?_
       rotate_left
       ·intro w'
        go_simp
        with_reducible rfl
       rotate_left
       ·simp only [Act.put, sA, s0, sS, i64_w, i32_w]
        rfl
       refine pure_ (i := 4) (N := some 19) (v := ?_) (a' := ?_) #[true, true, true, false, true, false, false] rfl rfl (by kernel_rfl) (fun _ _ _ h => h) (Or.inl ⟨by rfl, ?_⟩) ?_ ?_
       rotate_left
       ·intro w'
        go_simp
        with_reducible rfl
       rotate_left
       ·simp only [Act.put, sA, s0, sS, i64_w, i32_w]
        rfl
       refine take_ (i := 3) (N := some 18) (v := ?_) (a' := ?_) #[true, true, true, true, true, false, false] rfl rfl (by kernel_rfl) (fun _ _ _ h => h) (Or.inl ⟨by rfl, ?_⟩) hHeld ?_ ?_
       rotate_left
       ·intro w' s0
        go_simp
        with_reducible rfl
       rotate_left
       ·simp only [Act.put, sA, s0, sS, i64_w, i32_w]
        rfl
       refine one_ (i := 5) (N := some 20) #[true, true, true, true, true, true, false] rfl rfl (by kernel_rfl) (by decide) (fun K hK => ?_)
       refine goes_ Tryd.func51 (by kernel_rfl) rfl #[.string a1] (by rfl) rfl rfl ca ?_
       with_reducible refine (newsreelref02_Lower.calls k1 a1 t264 _ A7.out).mono ?_
       rintro e w14 ⟨rfl, hb⟩
       have hbk_w14 := mkA hb
       have HS0_ := (hb.cell (World.block_lt_of_cell? _ _ (hHeld))).trans (hHeld)
       refine ⟨_, rfl, ?_⟩
       have n0_ := mkA (Kd.R_below (Kd.R_y HO_5.out) hb)
       have n1_ := mkA (below_step (below_y HB.out) hb)
       clear HO_5 HB
       have HO_5 := n0_
       have HB := n1_
       clear n0_ n1_
       (try clear hb)
       (try clear hb2)
       (try clear hk)
       (try clear hi)
       refine hK.out _ _ (HS0_) (fun hHeld => ?_)
       clear hK K
       refine norm_ (a' := ?_) ?_ ?_
       rotate_left
       ·show Act.put _ (some 20) _ = _
        simp only [Act.put, sA, s0, sS, i64_w, i32_w]
        rfl
       refine pure_ (i := 6) (N := some 21) (v := ?_) (a' := ?_) #[true, true, true, true, true, true, true] rfl rfl (by kernel_rfl) (fun _ _ _ h => h) (Or.inl ⟨by rfl, ?_⟩) ?_ ?_
       rotate_left
       ·intro w'
        go_simp
        with_reducible rfl
       rotate_left
       ·simp only [Act.put, sA, s0, sS, i64_w, i32_w]
        rfl
       refine done_ (by kernel_rfl) ?_
       try go_wp2
       go_roundg k1
       case measure => have := HK1.out; omega
       case rel => exact ⟨(wrap64 (x6_1 + 1)), (by first | rfl | (simp; done) | (simp [*]; done)), H', ⟨by have := HK1.out; omega⟩, ⟨by (with_reducible repeat (first | apply Kd.R_alloc | apply Kd.R_drewN | apply Kd.R_drew)); exact HO_5.out⟩, ⟨below_y HB.out⟩⟩
    ·rw [if_neg c6] at H
     exact absurd H (by simp)
   ·rw [if_neg c5] at H
    have c5b0 : decide (x6_1 < (t260.length : Int)) = false := decide_eq_false c5
    clear c5
    as_aux_lemma =>
     obtain rfl := Option.some.inj H
     obtain ⟨Ao15, co15, eo15⟩ := Kd.R_slice HO_5.out
     subst eo15
     go_wp2
     go_ret
     exact ⟨by first | rfl | (simp [errW_none, errW_some] <;> rfl) | (simp [*, errW_none, errW_some] <;> rfl), below_y HB.out⟩

/-! ### newsreelref01_Digits: function 52 -/
mutual
def newsreelref01_Digits.l0 : Nat → ByteArray → Int → Option (Bool)
 | 0, _, _ => none
 | k + 1, x0, x3 => if x3 < (x0.size : Int) then (if 0 ≤ x3 then (if (bt x0 x3) < 48 then (newsreelref01_Digits.j1 k x0 x3 true) else (newsreelref01_Digits.j1 k x0 x3 (decide ((bt x0 x3) > 57)))) else (none)) else (some (decide ((x0.size : Int) > 0)))
def newsreelref01_Digits.j1 : Nat → ByteArray → Int → Bool → Option (Bool)
 | 0, _, _, _ => none
 | k + 1, x0, x3, x19 => if x19 = true then (some false) else (newsreelref01_Digits.l0 k x0 (wrap64 (x3 + 1)))
end
def newsreelref01_Digits.f (k : Nat) (a0 : ByteArray) : Option (Bool) := newsreelref01_Digits.l0 k a0 0
theorem newsreelref01_Digits.mono_l : ∀ k, (∀ y0 y1, LeO (newsreelref01_Digits.l0 k y0 y1) (newsreelref01_Digits.l0 (k + 1) y0 y1)) ∧ (∀ y0 y1 y2, LeO (newsreelref01_Digits.j1 k y0 y1 y2) (newsreelref01_Digits.j1 (k + 1) y0 y1 y2))
 | 0 => ⟨fun _ _ r h => by simp [newsreelref01_Digits.l0] at h, fun _ _ _ r h => by simp [newsreelref01_Digits.j1] at h⟩
 | k + 1 => by
  obtain ⟨ih0, ih1⟩ := newsreelref01_Digits.mono_l k
  refine ⟨?_, ?_⟩
  ·intro y0 y1
   unfold newsreelref01_Digits.l0
   repeat' first
   | (with_reducible exact ih0 _ _)
   | (with_reducible exact ih1 _ _ _)
   | (with_reducible exact LeO.refl _)
   | (with_reducible exact LeO.none _)
   | (with_reducible refine LeO.ite ?_ ?_)
   | (with_reducible refine LeO.bind ?_ (fun _ => ?_))
   | exact ih0 _ _
   | exact ih1 _ _ _
   | exact LeO.none _
   | refine LeO.ite ?_ ?_
   | refine LeO.bind ?_ (fun _ => ?_)
  ·intro y0 y1 y2
   unfold newsreelref01_Digits.j1
   repeat' first
   | (with_reducible exact ih0 _ _)
   | (with_reducible exact ih1 _ _ _)
   | (with_reducible exact LeO.refl _)
   | (with_reducible exact LeO.none _)
   | (with_reducible refine LeO.ite ?_ ?_)
   | (with_reducible refine LeO.bind ?_ (fun _ => ?_))
   | exact ih0 _ _
   | exact ih1 _ _ _
   | exact LeO.none _
   | refine LeO.ite ?_ ?_
   | refine LeO.bind ?_ (fun _ => ?_)
theorem newsreelref01_Digits.mono : ∀ a0 k, LeO (newsreelref01_Digits.f k a0) (newsreelref01_Digits.f (k + 1) a0) := by
 intro a0 k
 obtain ⟨ih0, ih1⟩ := newsreelref01_Digits.mono_l k
 unfold newsreelref01_Digits.f
 repeat' first
   | (with_reducible exact ih0 _ _)
   | (with_reducible exact ih1 _ _ _)
   | (with_reducible exact LeO.refl _)
   | (with_reducible exact LeO.none _)
   | (with_reducible refine LeO.ite ?_ ?_)
   | (with_reducible refine LeO.bind ?_ (fun _ => ?_))
   | exact ih0 _ _
   | exact ih1 _ _ _
   | exact LeO.none _
   | refine LeO.ite ?_ ?_
   | refine LeO.bind ?_ (fun _ => ?_)
set_option maxHeartbeats 8000000 in
set_option maxRecDepth 100000 in
theorem newsreelref01_Digits.calls (k : Nat) (a0 : ByteArray) (r : Bool) (w : World) (h : newsreelref01_Digits.f k a0 = some r) :
  Calls Tryd.prog 52 #[.string a0] w fun e w' => e = .returned (.bool r) ∧ Drawn0 w w' := by
 have H : (newsreelref01_Digits.l0 k a0 0) = some r := h
 clear h
 have H' := mkA H
 clear H
 go_enter Tryd.func52, Tryd.ntmps52
 go_wp2
 go_loopg [3] k (fun kq v3 w' => ∃ (x3_1 : Int), v3 = .int .i64 x3_1 ∧ Aside0 (newsreelref01_Digits.l0 kq a0 x3_1 = some r) ∧ Aside0 (kq ≤ k) ∧ Drawn0 w w')
 case atStart => exact ⟨(0), (by first | rfl | (simp; done) | (simp [*]; done)), H', ⟨Nat.le_refl _⟩, by repeat (first | exact Drawn0.refl _ | apply Drawn0.step)⟩
 case round =>
  clear H'
  obtain ⟨x3_1, rfl, HA, HK1, ⟨m1, rfl⟩⟩ := hrel
  cases gk with
  | zero => exact absurd HA.out (by simp [newsreelref01_Digits.l0])
  | succ k1 =>
   have H := HA.out
   clear HA
   simp only [newsreelref01_Digits.l0] at H
   by_cases c2 : x3_1 < (a0.size : Int)
   ·rw [if_pos c2] at H
    have c2b0 : decide (x3_1 < (a0.size : Int)) = true := decide_eq_true c2
    clear c2
    have HC3 := mkA H
    clear H
    go_upto_region 4 with (fail)
    go_cut [19] (fun v19 wc => ∃ (kq : Nat) (x19_2 : Bool), v19 = .bool x19_2 ∧ Aside0 (newsreelref01_Digits.j1 kq a0 x3_1 x19_2 = some r) ∧ Aside0 (kq ≤ k1) ∧ Drawn0 w wc)
    case first =>
     have H := HC3.out
     clear HC3
     by_cases c4 : 0 ≤ x3_1
     ·rw [if_pos c4] at H
      have c4b0 : decide (0 ≤ x3_1) = true := decide_eq_true c4
      clear c4
      (first | rw [c4b0] | (simp only [i64_w, i32_w]; rw [c4b0]) | skip)
      by_cases c6 : (bt a0 x3_1) < 48
      ·rw [if_pos c6] at H
       have c6b0 : decide ((bt a0 x3_1) < 48) = true := decide_eq_true c6
       clear c6
       as_aux_lemma =>
        have H' := mkA H
        clear H
        have p5 : 0 ≤ (x3_1 : Int) := odt
        have q5 : x3_1 < (a0.size : Int) := odt
        have hx5 := bt_at a0 x3_1
        replace p5 := eq_true p5
        replace q5 := eq_true q5
        go_wp2
        go_meet
        case rel => exact ⟨_, (true), (by first | rfl | (simp; done) | (simp [*]; done)), H', ⟨by have := HK1.out; first | omega | exact Nat.le_refl _⟩, by repeat (first | exact Drawn0.refl _ | apply Drawn0.step)⟩
      ·rw [if_neg c6] at H
       have c6b0 : decide ((bt a0 x3_1) < 48) = false := decide_eq_false c6
       clear c6
       as_aux_lemma =>
        have H' := mkA H
        clear H
        have p5 : 0 ≤ (x3_1 : Int) := odt
        have q5 : x3_1 < (a0.size : Int) := odt
        have hx5 := bt_at a0 x3_1
        replace p5 := eq_true p5
        replace q5 := eq_true q5
        have p7 : 0 ≤ (x3_1 : Int) := odt
        have q7 : x3_1 < (a0.size : Int) := odt
        have hx7 := bt_at a0 x3_1
        replace p7 := eq_true p7
        replace q7 := eq_true q7
        go_wp2
        go_meet
        case rel => exact ⟨_, (decide ((bt a0 x3_1) > 57)), (by first | rfl | (simp; done) | (simp [*]; done)), H', ⟨by have := HK1.out; first | omega | exact Nat.le_refl _⟩, by repeat (first | exact Drawn0.refl _ | apply Drawn0.step)⟩
     ·rw [if_neg c4] at H
      exact absurd H (by simp)
    case rest =>
     clear HC3
     try clear c2
     try clear c2b0
     try clear p2
     try clear c4
     try clear c4b0
     try clear c5
     try clear p5
     try clear q5
     try clear hx5
     try clear c6
     try clear c6b0
     try clear p7
     try clear q7
     try clear hx7
     try clear p5
     try clear p7
     try clear q5
     try clear q7
     obtain ⟨kq, x19_2, rfl, HA, HJ2, ⟨mc2, rfl⟩⟩ := hcut
     cases kq with
     | zero => exact absurd HA.out (by simp [newsreelref01_Digits.j1])
     | succ kj2 =>
      have H := HA.out
      clear HA
      simp only [newsreelref01_Digits.j1] at H
      by_cases c8 : x19_2 = true
      ·subst c8
       have H1 : (some false) = some r := by rw [if_pos rfl] at H; exact H
       clear H
       have H := H1
       clear H1
       as_aux_lemma =>
        obtain rfl := Option.some.inj H
        go_wp2
        go_ret
        exact ⟨by first | rfl | (simp; done) | (simp [*]; done), by repeat (first | exact Drawn0.refl _ | apply Drawn0.step)⟩
      ·replace c8 := Bool.eq_false_iff.mpr c8
       subst c8
       have H1 : (newsreelref01_Digits.l0 kj2 a0 (wrap64 (x3_1 + 1))) = some r := by rw [if_neg (show ¬ (false = true) by decide)] at H; exact H
       clear H
       have H := H1
       clear H1
       as_aux_lemma =>
        have H' := mkA H
        clear H
        go_wp2
        go_roundg kj2
        case measure => have := HK1.out; have := HJ2.out; omega
        case rel => exact ⟨(wrap64 (x3_1 + 1)), (by first | rfl | (simp; done) | (simp [*]; done)), H', ⟨by have := HK1.out; have := HJ2.out; omega⟩, by repeat (first | exact Drawn0.refl _ | apply Drawn0.step)⟩
   ·rw [if_neg c2] at H
    have c2b0 : decide (x3_1 < (a0.size : Int)) = false := decide_eq_false c2
    clear c2
    as_aux_lemma =>
     obtain rfl := Option.some.inj H
     go_wp2
     go_ret
     exact ⟨by first | rfl | (simp; done) | (simp [*]; done), by repeat (first | exact Drawn0.refl _ | apply Drawn0.step)⟩

/-! ### newsreelref17_Number: function 41 -/
mutual
def newsreelref17_Number.j0 : Nat → ByteArray → Int → Bool → Option (Int)
 | 0, _, _, _ => none
 | k + 1, x0, x1, x15 => if x15 = true then (some (-1)) else (newsreelref17_Number.l0 k x0 x1 0 0)
def newsreelref17_Number.l0 : Nat → ByteArray → Int → Int → Int → Option (Int)
 | 0, _, _, _, _ => none
 | k + 1, x0, x1, x5, x6 => if x6 < x1 then (if 0 ≤ x6 then (if x6 < (x0.size : Int) then (newsreelref17_Number.l0 k x0 x1 (wrap64 ((wrap64 ((wrap64 (10 * x5)) + (wrap64 (bt x0 x6)))) - 48)) (wrap64 (x6 + 1))) else (none)) else (none)) else (some x5)
end
def newsreelref17_Number.f (k : Nat) (a0 : ByteArray) (a1 : Int) : Option (Int) := if (a0.size : Int) = a1 then ((newsreelref01_Digits.f k a0).bind fun t265 => (newsreelref17_Number.j0 k a0 a1 (!t265))) else (newsreelref17_Number.j0 k a0 a1 true)
theorem newsreelref17_Number.mono_l : ∀ k, (∀ y0 y1 y2, LeO (newsreelref17_Number.j0 k y0 y1 y2) (newsreelref17_Number.j0 (k + 1) y0 y1 y2)) ∧ (∀ y0 y1 y2 y3, LeO (newsreelref17_Number.l0 k y0 y1 y2 y3) (newsreelref17_Number.l0 (k + 1) y0 y1 y2 y3))
 | 0 => ⟨fun _ _ _ r h => by simp [newsreelref17_Number.j0] at h, fun _ _ _ _ r h => by simp [newsreelref17_Number.l0] at h⟩
 | k + 1 => by
  obtain ⟨ih0, ih1⟩ := newsreelref17_Number.mono_l k
  refine ⟨?_, ?_⟩
  ·intro y0 y1 y2
   unfold newsreelref17_Number.j0
   repeat' first
   | (with_reducible exact ih0 _ _ _)
   | (with_reducible exact ih1 _ _ _ _)
   | (with_reducible exact newsreelref01_Digits.mono _ _)
   | (with_reducible exact LeO.refl _)
   | (with_reducible exact LeO.none _)
   | (with_reducible refine LeO.ite ?_ ?_)
   | (with_reducible refine LeO.bind ?_ (fun _ => ?_))
   | exact ih0 _ _ _
   | exact ih1 _ _ _ _
   | exact newsreelref01_Digits.mono _ _
   | exact LeO.none _
   | refine LeO.ite ?_ ?_
   | refine LeO.bind ?_ (fun _ => ?_)
  ·intro y0 y1 y2 y3
   unfold newsreelref17_Number.l0
   repeat' first
   | (with_reducible exact ih0 _ _ _)
   | (with_reducible exact ih1 _ _ _ _)
   | (with_reducible exact newsreelref01_Digits.mono _ _)
   | (with_reducible exact LeO.refl _)
   | (with_reducible exact LeO.none _)
   | (with_reducible refine LeO.ite ?_ ?_)
   | (with_reducible refine LeO.bind ?_ (fun _ => ?_))
   | exact ih0 _ _ _
   | exact ih1 _ _ _ _
   | exact newsreelref01_Digits.mono _ _
   | exact LeO.none _
   | refine LeO.ite ?_ ?_
   | refine LeO.bind ?_ (fun _ => ?_)
theorem newsreelref17_Number.mono : ∀ a0 a1 k, LeO (newsreelref17_Number.f k a0 a1) (newsreelref17_Number.f (k + 1) a0 a1) := by
 intro a0 a1 k
 obtain ⟨ih0, ih1⟩ := newsreelref17_Number.mono_l k
 unfold newsreelref17_Number.f
 repeat' first
   | (with_reducible exact ih0 _ _ _)
   | (with_reducible exact ih1 _ _ _ _)
   | (with_reducible exact newsreelref01_Digits.mono _ _)
   | (with_reducible exact LeO.refl _)
   | (with_reducible exact LeO.none _)
   | (with_reducible refine LeO.ite ?_ ?_)
   | (with_reducible refine LeO.bind ?_ (fun _ => ?_))
   | exact ih0 _ _ _
   | exact ih1 _ _ _ _
   | exact newsreelref01_Digits.mono _ _
   | exact LeO.none _
   | refine LeO.ite ?_ ?_
   | refine LeO.bind ?_ (fun _ => ?_)
set_option maxHeartbeats 8000000 in
set_option maxRecDepth 100000 in
theorem newsreelref17_Number.calls (k : Nat) (a0 : ByteArray) (a1 : Int) (r : Int) (w : World) (h : newsreelref17_Number.f k a0 a1 = some r) :
  Calls Tryd.prog 41 #[.string a0, .int .i64 a1] w fun e w' => e = .returned (.int .i64 r) ∧ Drawn0 w w' := by
 have H : (if (a0.size : Int) = a1 then ((newsreelref01_Digits.f k a0).bind fun t265 => (newsreelref17_Number.j0 k a0 a1 (!t265))) else (newsreelref17_Number.j0 k a0 a1 true)) = some r := h
 clear h
 have HC3 := mkA H
 clear H
 go_enter Tryd.func41, Tryd.ntmps41
 go_upto_region 1 with (fail)
 go_cut [15] (fun v15 wc => ∃ (kq : Nat) (x15_2 : Bool), v15 = .bool x15_2 ∧ Aside0 (newsreelref17_Number.j0 kq a0 a1 x15_2 = some r) ∧ Aside0 (kq ≤ k) ∧ Drawn0 w wc)
 case first =>
  have H := HC3.out
  clear HC3
  by_cases c4 : (a0.size : Int) = a1
  ·rw [if_pos c4] at H
   have c4b0 : ((a0.size : Int) == a1) = true := beq_iff_eq.mpr c4
   have c4b1 : ((a0.size : Int) != a1) = false := bne_eq_false_iff_eq.mpr c4
   clear c4
   (first | rw [c4b0] | (simp only [i64_w, i32_w]; rw [c4b0]) | skip)
   replace H := Option.bind_eq_some_iff.mp H
   obtain ⟨t265, A50, H⟩ := H
   replace H : (newsreelref17_Number.j0 k a0 a1 (!t265)) = some r := H
   have A5 := mkA A50
   clear A50
   as_aux_lemma =>
    have H' := mkA H
    clear H
    go_wp2_with (first | (go_at_call 52; (with_reducible refine (newsreelref01_Digits.calls k a0 t265 _ A5.out).mono ?_); rintro e w' ⟨rfl, ⟨nd, rfl⟩⟩))
    go_meet
    case rel => exact ⟨_, (!t265), (by first | rfl | (simp; done) | (simp [*]; done)), H', ⟨by first | omega | exact Nat.le_refl _⟩, by repeat (first | exact Drawn0.refl _ | apply Drawn0.step)⟩
  ·rw [if_neg c4] at H
   have c4b0 : ((a0.size : Int) == a1) = false := beq_eq_false_iff_ne.mpr c4
   have c4b1 : ((a0.size : Int) != a1) = true := bne_iff_ne.mpr c4
   (first | rw [c4b0] | (simp only [i64_w, i32_w]; rw [c4b0]) | skip)
   as_aux_lemma =>
    have H' := mkA H
    clear H
    go_wp2
    go_meet
    case rel => exact ⟨_, (true), (by first | rfl | (simp; done) | (simp [*]; done)), H', ⟨by first | omega | exact Nat.le_refl _⟩, by repeat (first | exact Drawn0.refl _ | apply Drawn0.step)⟩
 case rest =>
  clear HC3
  try clear p2
  try clear c4
  try clear c4b0
  try clear c4b1
  obtain ⟨kq, x15_2, rfl, HA, HJ2, ⟨mc2, rfl⟩⟩ := hcut
  cases kq with
  | zero => exact absurd HA.out (by simp [newsreelref17_Number.j0])
  | succ kj2 =>
   have H := HA.out
   clear HA
   simp only [newsreelref17_Number.j0] at H
   by_cases c6 : x15_2 = true
   ·subst c6
    have H1 : (some (-1)) = some r := by rw [if_pos rfl] at H; exact H
    clear H
    have H := H1
    clear H1
    as_aux_lemma =>
     obtain rfl := Option.some.inj H
     go_wp2
     go_ret
     exact ⟨by first | rfl | (simp; done) | (simp [*]; done), by repeat (first | exact Drawn0.refl _ | apply Drawn0.step)⟩
   ·replace c6 := Bool.eq_false_iff.mpr c6
    subst c6
    have H1 : (newsreelref17_Number.l0 kj2 a0 a1 0 0) = some r := by rw [if_neg (show ¬ (false = true) by decide)] at H; exact H
    clear H
    have H := H1
    clear H1
    have H' := mkA H
    clear H
    go_wp2
    go_loopg [5, 6] kj2 (fun kq v5 v6 w' => ∃ (x5_2 : Int) (x6_2 : Int), v5 = .int .i64 x5_2 ∧ v6 = .int .i64 x6_2 ∧ Aside0 (newsreelref17_Number.l0 kq a0 a1 x5_2 x6_2 = some r) ∧ Aside0 (kq ≤ kj2) ∧ Drawn0 w w')
    case atStart => exact ⟨(0), (0), (by first | rfl | (simp; done) | (simp [*]; done)), (by first | rfl | (simp; done) | (simp [*]; done)), H', ⟨Nat.le_refl _⟩, by repeat (first | exact Drawn0.refl _ | apply Drawn0.step)⟩
    case round =>
     clear H'
     try clear c2
     try clear p2
     try clear c4
     try clear c4b0
     try clear c4b1
     try clear c6
     try clear p2
     obtain ⟨x5_2, x6_2, rfl, rfl, HA, HK2, ⟨m2, rfl⟩⟩ := hrel
     cases gk with
     | zero => exact absurd HA.out (by simp [newsreelref17_Number.l0])
     | succ k2 =>
      have H := HA.out
      clear HA
      simp only [newsreelref17_Number.l0] at H
      by_cases c7 : x6_2 < a1
      ·rw [if_pos c7] at H
       have c7b0 : decide (x6_2 < a1) = true := decide_eq_true c7
       clear c7
       by_cases c8 : 0 ≤ x6_2
       ·rw [if_pos c8] at H
        have c8b0 : decide (0 ≤ x6_2) = true := decide_eq_true c8
        clear c8
        by_cases c9 : x6_2 < (a0.size : Int)
        ·rw [if_pos c9] at H
         have c9b0 : decide (x6_2 < (a0.size : Int)) = true := decide_eq_true c9
         clear c9
         as_aux_lemma =>
          have H' := mkA H
          clear H
          have p10 : 0 ≤ (x6_2 : Int) := odt
          have q10 : x6_2 < (a0.size : Int) := odt
          have hx10 := bt_at a0 x6_2
          replace p10 := eq_true p10
          replace q10 := eq_true q10
          go_wp2
          go_roundg k2
          case measure => have := HJ2.out; have := HK2.out; omega
          case rel => exact ⟨(wrap64 ((wrap64 ((wrap64 (10 * x5_2)) + (wrap64 (bt a0 x6_2)))) - 48)), (wrap64 (x6_2 + 1)), (by first | rfl | (simp; done) | (simp [*]; done)), (by first | rfl | (simp; done) | (simp [*]; done)), H', ⟨by have := HJ2.out; have := HK2.out; omega⟩, by repeat (first | exact Drawn0.refl _ | apply Drawn0.step)⟩
        ·rw [if_neg c9] at H
         exact absurd H (by simp)
       ·rw [if_neg c8] at H
        exact absurd H (by simp)
      ·rw [if_neg c7] at H
       have c7b0 : decide (x6_2 < a1) = false := decide_eq_false c7
       clear c7
       as_aux_lemma =>
        obtain rfl := Option.some.inj H
        go_wp2
        go_ret
        exact ⟨by first | rfl | (simp; done) | (simp [*]; done), by repeat (first | exact Drawn0.refl _ | apply Drawn0.step)⟩

/-! ### newsreelref02_Split: function 42 -/
def newsreelref02_Split.l0 : Nat → ByteArray → Int → List ByteArray → Int → Int → Option (List ByteArray)
 | 0, _, _, _, _, _ => none
 | k + 1, x0, x1, x5, x6, x7 => if x7 < (x0.size : Int) then (if 0 ≤ x7 then (if (bt x0 x7) = x1 then (if 0 ≤ x6 then (if x6 ≤ x7 then (if x7 ≤ (x0.size : Int) then (if x5.length < 8796093022208 then (newsreelref02_Split.l0 k x0 x1 (x5 ++ [x0.extract (x6 : Int).toNat (x7 : Int).toNat]) (wrap64 (x7 + 1)) (wrap64 (x7 + 1))) else (none)) else (none)) else (none)) else (none)) else (newsreelref02_Split.l0 k x0 x1 x5 x6 (wrap64 (x7 + 1)))) else (none)) else (if 0 ≤ x6 then (if x6 ≤ (x0.size : Int) then (if x5.length < 8796093022208 then (some (x5 ++ [x0.extract (x6 : Int).toNat x0.size])) else (none)) else (none)) else (none))
def newsreelref02_Split.f (k : Nat) (a0 : ByteArray) (a1 : Int) : Option (List ByteArray) := newsreelref02_Split.l0 k a0 a1 (([] : List ByteArray)) 0 0
theorem newsreelref02_Split.mono_l : ∀ k, (∀ y0 y1 y2 y3 y4, LeO (newsreelref02_Split.l0 k y0 y1 y2 y3 y4) (newsreelref02_Split.l0 (k + 1) y0 y1 y2 y3 y4))
 | 0 => fun _ _ _ _ _ r h => by simp [newsreelref02_Split.l0] at h
 | k + 1 => by
  have ih0 := newsreelref02_Split.mono_l k
  ·intro y0 y1 y2 y3 y4
   unfold newsreelref02_Split.l0
   repeat' first
   | (with_reducible exact ih0 _ _ _ _ _)
   | (with_reducible exact LeO.refl _)
   | (with_reducible exact LeO.none _)
   | (with_reducible refine LeO.ite ?_ ?_)
   | (with_reducible refine LeO.bind ?_ (fun _ => ?_))
   | exact ih0 _ _ _ _ _
   | exact LeO.none _
   | refine LeO.ite ?_ ?_
   | refine LeO.bind ?_ (fun _ => ?_)
theorem newsreelref02_Split.mono : ∀ a0 a1 k, LeO (newsreelref02_Split.f k a0 a1) (newsreelref02_Split.f (k + 1) a0 a1) := by
 intro a0 a1 k
 have ih0 := newsreelref02_Split.mono_l k
 unfold newsreelref02_Split.f
 repeat' first
   | (with_reducible exact ih0 _ _ _ _ _)
   | (with_reducible exact LeO.refl _)
   | (with_reducible exact LeO.none _)
   | (with_reducible refine LeO.ite ?_ ?_)
   | (with_reducible refine LeO.bind ?_ (fun _ => ?_))
   | exact ih0 _ _ _ _ _
   | exact LeO.none _
   | refine LeO.ite ?_ ?_
   | refine LeO.bind ?_ (fun _ => ?_)
set_option maxHeartbeats 8000000 in
set_option maxRecDepth 100000 in
theorem newsreelref02_Split.calls (k : Nat) (a0 : ByteArray) (a1 : Int) (r : List ByteArray) (w : World) (h : newsreelref02_Split.f k a0 a1 = some r) :
  Calls Tryd.prog 42 #[.string a0, .int .u8 a1] w fun e w' => ∃ v0_ : Value, e = .returned (v0_) ∧ Kd.R Kd.string 9 w' w.heap.size (fun _ => True) v0_ r ∧ Below w.heap.size w w' := by
 have HB := mkA (Below.refl w.heap.size w)
 have H : (newsreelref02_Split.l0 k a0 a1 (([] : List ByteArray)) 0 0) = some r := h
 clear h
 obtain ⟨y279, hy279⟩ : ∃ y_ : List ByteArray, y_ = (([] : List ByteArray)) := ⟨_, rfl⟩
 replace H : (newsreelref02_Split.l0 k a0 a1 y279 0 0) = some r := by first | (rw [hy279]; with_reducible exact H) | (have H2_ := (Option.bind_some _ _).symm.trans H; rw [hy279]; with_reducible exact H2_) | (have H2_ := (Option.bind_some _ _).symm.trans H; with_reducible exact H2_) | with_reducible exact H | (rw [hy279]; exact H) | exact H
 have Ny279 := mkA hy279
 clear hy279
 have H' := mkA H
 clear H
 go_enter Tryd.func42, Tryd.ntmps42
 go_wp2_with (first | ((with_reducible refine gate_dst (N := 8) rfl ?_); refine Kd.R_lit Kd.string _ 9 ?hg (N := 8) ?hd (xs := ([] : List ByteArray)) (inner := []) (ok := fun _ => True) (okp := fun _ => True) ?hr ?hp (fun _ hk => hk) trivial (Below.refl _ _) (Nat.le_refl _) (by simp) ?_; (case hd => rfl); (case hg => rfl); (case hr => first | (go_simp; done) | (go_simp; rfl)); (case hp => exact (Reps.none _ _)); intro v280 w3 ho4 hb hg_ hnew_; clear hg_ hnew_; (first | rw [← Ny279.out] at ho4 | (simp only [Int.reduceToNat] at ho4; rw [← Ny279.out] at ho4)); have n0_ := mkA (Kd.R_lower ho4 (below_size (below_y HB.out))); have n1_ := mkA (below_step (below_y HB.out) hb); clear HB; have HO281 := n0_; have HB := n1_; clear n0_ n1_; clear hb ho4))
 go_loopg [5, 6, 7] k (fun kq v5 v6 v7 w' => ∃ (x5_1 : List ByteArray) (x6_1 : Int) (x7_1 : Int), v6 = .int .i64 x6_1 ∧ v7 = .int .i64 x7_1 ∧ Aside0 (newsreelref02_Split.l0 kq a0 a1 x5_1 x6_1 x7_1 = some r) ∧ Aside0 (kq ≤ k) ∧ Aside0 (Kd.R Kd.string 9 w' w.heap.size (fun _ => True) v5 x5_1) ∧ Aside0 (Below w.heap.size w w'))
 case atStart => exact ⟨(y279), (0), (0), (by first | rfl | (simp; done) | (simp [*]; done)), (by first | rfl | (simp; done) | (simp [*]; done)), H', ⟨Nat.le_refl _⟩, ⟨by (with_reducible repeat (first | apply Kd.R_alloc | apply Kd.R_drewN | apply Kd.R_drew)); exact HO281.out⟩, ⟨below_y HB.out⟩⟩
 case round =>
  clear H'
  try clear p2
  try clear c4
  obtain ⟨x5_1, x6_1, x7_1, rfl, rfl, HA, HK1, HO_5, HB⟩ := hrel
  cases gk with
  | zero => exact absurd HA.out (by simp [newsreelref02_Split.l0])
  | succ k1 =>
   have H := HA.out
   clear HA
   simp only [newsreelref02_Split.l0] at H
   by_cases c5 : x7_1 < (a0.size : Int)
   ·rw [if_pos c5] at H
    have c5b0 : decide (x7_1 < (a0.size : Int)) = true := decide_eq_true c5
    clear c5
    by_cases c6 : 0 ≤ x7_1
    ·rw [if_pos c6] at H
     have c6b0 : decide (0 ≤ x7_1) = true := decide_eq_true c6
     clear c6
     by_cases c8 : (bt a0 x7_1) = a1
     ·rw [if_pos c8] at H
      have c8b0 : ((bt a0 x7_1) == a1) = true := beq_iff_eq.mpr c8
      have c8b1 : ((bt a0 x7_1) != a1) = false := bne_eq_false_iff_eq.mpr c8
      clear c8
      by_cases c9 : 0 ≤ x6_1
      ·rw [if_pos c9] at H
       have c9b0 := eq_true c9
       have c9b1 : decide (0 ≤ x6_1) = true := decide_eq_true c9
       clear c9
       by_cases c10 : x6_1 ≤ x7_1
       ·rw [if_pos c10] at H
        have c10b0 := eq_true c10
        have c10b1 : decide (x6_1 ≤ x7_1) = true := decide_eq_true c10
        clear c10
        by_cases c11 : x7_1 ≤ (a0.size : Int)
        ·rw [if_pos c11] at H
         have c11b0 := eq_true c11
         have c11b1 : decide (x7_1 ≤ (a0.size : Int)) = true := decide_eq_true c11
         clear c11
         by_cases c12 : x5_1.length < 8796093022208
         ·rw [if_pos c12] at H
          have LMc12 := mkA c12
          clear c12
          obtain ⟨y285, hy285⟩ : ∃ y_ : List ByteArray, y_ = (x5_1 ++ [a0.extract (x6_1 : Int).toNat (x7_1 : Int).toNat]) := ⟨_, rfl⟩
          replace H : (newsreelref02_Split.l0 k1 a0 a1 y285 (wrap64 (x7_1 + 1)) (wrap64 (x7_1 + 1))) = some r := by first | (rw [hy285]; with_reducible exact H) | (have H2_ := (Option.bind_some _ _).symm.trans H; rw [hy285]; with_reducible exact H2_) | (have H2_ := (Option.bind_some _ _).symm.trans H; with_reducible exact H2_) | with_reducible exact H | (rw [hy285]; exact H) | exact H
          have Ny285 := mkA hy285
          clear hy285
          have H' := mkA H
          clear H
          have p7 : 0 ≤ (x7_1 : Int) := odt
          have q7 : x7_1 < (a0.size : Int) := odt
          have hx7 := bt_at a0 x7_1
          replace p7 := eq_true p7
          replace q7 := eq_true q7
          go_wp2_with (first | ((with_reducible refine gate_builtin (b := .append) (xs := #[.tmp 20, .tmp 25]) rfl ?_); at_builtin; refine Kd.R_append Kd.string (w0 := w) w.heap.size rfl (.tmp 20) (.tmp 25) 35 9 (.string ⟨#[]⟩) 16 rfl Tryd.underlying35 info9 rfl (by decide) (by omega) u5 x5_1 (a0.extract (x6_1 : Int).toNat (x7_1 : Int).toNat) [.string (a0.extract (x6_1 : Int).toNat (x7_1 : Int).toNat)] (fun _ => True) (fun _ => False) rfl rfl ?aP (fun _ hk => hk.elim) ?aF ?aO ?aB ?aS ?aL ?_; (case aP => exact rfl); (case aB => exact (below_y HB.out)); (case aF => exact (fun _ _ => trivial)); (case aO => exact (Kd.R_y HO_5.out)); (case aS => exact (below_size (below_y HB.out))); (case aL => have := LMc12.out; omega); intro v286 w13 ho hb hg hat; rw [← Ny285.out] at ho; have n0_ := mkA (hb); have n1_ := mkA (ho); clear HB; clear HO_5; have HB := n0_; have HO287 := n1_; clear n0_ n1_; clear ho hb hg hat))
          go_roundg k1
          case measure => have := HK1.out; omega
          case rel => exact ⟨(y285), (wrap64 (x7_1 + 1)), (wrap64 (x7_1 + 1)), (by first | rfl | (simp; done) | (simp [*]; done)), (by first | rfl | (simp; done) | (simp [*]; done)), H', ⟨by have := HK1.out; omega⟩, ⟨by (with_reducible repeat (first | apply Kd.R_alloc | apply Kd.R_drewN | apply Kd.R_drew)); exact HO287.out⟩, ⟨below_y HB.out⟩⟩
         ·rw [if_neg c12] at H
          exact absurd H (by simp)
        ·rw [if_neg c11] at H
         exact absurd H (by simp)
       ·rw [if_neg c10] at H
        exact absurd H (by simp)
      ·rw [if_neg c9] at H
       exact absurd H (by simp)
     ·rw [if_neg c8] at H
      have c8b0 : ((bt a0 x7_1) == a1) = false := beq_eq_false_iff_ne.mpr c8
      have c8b1 : ((bt a0 x7_1) != a1) = true := bne_iff_ne.mpr c8
      have H' := mkA H
      clear H
      have p7 : 0 ≤ (x7_1 : Int) := odt
      have q7 : x7_1 < (a0.size : Int) := odt
      have hx7 := bt_at a0 x7_1
      replace p7 := eq_true p7
      replace q7 := eq_true q7
      go_wp2
      go_roundg k1
      case measure => have := HK1.out; omega
      case rel => exact ⟨(x5_1), (x6_1), (wrap64 (x7_1 + 1)), (by first | rfl | (simp; done) | (simp [*]; done)), (by first | rfl | (simp; done) | (simp [*]; done)), H', ⟨by have := HK1.out; omega⟩, ⟨by (with_reducible repeat (first | apply Kd.R_alloc | apply Kd.R_drewN | apply Kd.R_drew)); exact HO_5.out⟩, ⟨below_y HB.out⟩⟩
    ·rw [if_neg c6] at H
     exact absurd H (by simp)
   ·rw [if_neg c5] at H
    have c5b0 : decide (x7_1 < (a0.size : Int)) = false := decide_eq_false c5
    clear c5
    by_cases c14 : 0 ≤ x6_1
    ·rw [if_pos c14] at H
     have c14b0 := eq_true c14
     have c14b1 : decide (0 ≤ x6_1) = true := decide_eq_true c14
     clear c14
     by_cases c15 : x6_1 ≤ (a0.size : Int)
     ·rw [if_pos c15] at H
      have c15b0 := eq_true c15
      have c15b1 : decide (x6_1 ≤ (a0.size : Int)) = true := decide_eq_true c15
      clear c15
      by_cases c16 : x5_1.length < 8796093022208
      ·rw [if_pos c16] at H
       have LMc16 := mkA c16
       clear c16
       obtain ⟨y282, hy282⟩ : ∃ y_ : List ByteArray, y_ = (x5_1 ++ [a0.extract (x6_1 : Int).toNat a0.size]) := ⟨_, rfl⟩
       replace H : (some y282) = some r := by first | (rw [hy282]; with_reducible exact H) | (have H2_ := (Option.bind_some _ _).symm.trans H; rw [hy282]; with_reducible exact H2_) | (have H2_ := (Option.bind_some _ _).symm.trans H; with_reducible exact H2_) | with_reducible exact H | (rw [hy282]; exact H) | exact H
       have Ny282 := mkA hy282
       clear hy282
       obtain rfl := Option.some.inj H
       go_wp2_with (first | ((with_reducible refine gate_builtin (b := .append) (xs := #[.tmp 29, .tmp 33]) rfl ?_); at_builtin; refine Kd.R_append Kd.string (w0 := w) w.heap.size rfl (.tmp 29) (.tmp 33) 35 9 (.string ⟨#[]⟩) 16 rfl Tryd.underlying35 info9 rfl (by decide) (by omega) u5 x5_1 (a0.extract (x6_1 : Int).toNat a0.size) [.string (a0.extract (x6_1 : Int).toNat a0.size)] (fun _ => True) (fun _ => False) rfl rfl ?aP (fun _ hk => hk.elim) ?aF ?aO ?aB ?aS ?aL ?_; (case aP => exact rfl); (case aB => exact (below_y HB.out)); (case aF => exact (fun _ _ => trivial)); (case aO => exact (Kd.R_y HO_5.out)); (case aS => exact (below_size (below_y HB.out))); (case aL => have := LMc16.out; omega); intro v283 w17 ho hb hg hat; rw [← Ny282.out] at ho; have n0_ := mkA (hb); have n1_ := mkA (ho); clear HB; clear HO_5; have HB := n0_; have HO284 := n1_; clear n0_ n1_; clear ho hb hg hat))
       go_ret
       exact ⟨_, by first | rfl | (simp [errW_none, errW_some] <;> rfl) | (simp [*, errW_none, errW_some] <;> rfl), by (with_reducible repeat (first | apply Kd.R_alloc | apply Kd.R_drewN | apply Kd.R_drew)); exact HO284.out, below_y HB.out⟩
      ·rw [if_neg c16] at H
       exact absurd H (by simp)
     ·rw [if_neg c15] at H
      exact absurd H (by simp)
    ·rw [if_neg c14] at H
     exact absurd H (by simp)

/-! ### newsreelref17_year: function 43 -/
def newsreelref17_year.f (k : Nat) (a0 : ByteArray) : Option (Int) := (newsreelref17_Number.f k a0 2).bind fun t288 => (if t288 ≥ 70 then (some (wrap64 (1900 + t288))) else (if t288 ≥ 0 then (some (wrap64 (2000 + t288))) else ((newsreelref17_Number.f k a0 4).bind fun t289 => (some t289))))
theorem newsreelref17_year.mono : ∀ a0 k, LeO (newsreelref17_year.f k a0) (newsreelref17_year.f (k + 1) a0) := by
 intro a0 k
 unfold newsreelref17_year.f
 repeat' first
   | (with_reducible exact newsreelref17_Number.mono _ _ _)
   | (with_reducible exact LeO.refl _)
   | (with_reducible exact LeO.none _)
   | (with_reducible refine LeO.ite ?_ ?_)
   | (with_reducible refine LeO.bind ?_ (fun _ => ?_))
   | exact newsreelref17_Number.mono _ _ _
   | exact LeO.none _
   | refine LeO.ite ?_ ?_
   | refine LeO.bind ?_ (fun _ => ?_)
set_option maxHeartbeats 8000000 in
set_option maxRecDepth 100000 in
theorem newsreelref17_year.calls (k : Nat) (a0 : ByteArray) (r : Int) (w : World) (h : newsreelref17_year.f k a0 = some r) :
  Calls Tryd.prog 43 #[.string a0] w fun e w' => e = .returned (.int .i64 r) ∧ Drawn0 w w' := by
 have H : ((newsreelref17_Number.f k a0 2).bind fun t288 => (if t288 ≥ 70 then (some (wrap64 (1900 + t288))) else (if t288 ≥ 0 then (some (wrap64 (2000 + t288))) else ((newsreelref17_Number.f k a0 4).bind fun t289 => (some t289))))) = some r := h
 clear h
 replace H := Option.bind_eq_some_iff.mp H
 obtain ⟨t288, A20, H⟩ := H
 replace H : (if t288 ≥ 70 then (some (wrap64 (1900 + t288))) else (if t288 ≥ 0 then (some (wrap64 (2000 + t288))) else ((newsreelref17_Number.f k a0 4).bind fun t289 => (some t289)))) = some r := H
 have A2 := mkA A20
 clear A20
 by_cases c3 : t288 ≥ 70
 ·rw [if_pos c3] at H
  have c3b0 : decide (70 ≤ t288) = true := decide_eq_true c3
  clear c3
  obtain rfl := Option.some.inj H
  as_aux_lemma =>
   go_enter Tryd.func43, Tryd.ntmps43
   go_wp2_with (first | ((with_reducible refine gate_callee (f := 41) rfl ?_); refine goesL_ (some 5) rfl rfl Tryd.func41 (by kernel_rfl) rfl #[.string a0, .int .i64 2] rfl ca ?_; (with_reducible refine (newsreelref17_Number.calls k a0 2 t288 _ A2.out).mono ?_); rintro e w' ⟨rfl, ⟨nd, rfl⟩⟩; refine ⟨_, rfl, ?_⟩))
   go_ret
   exact ⟨by first | rfl | (simp; done) | (simp [*]; done), by repeat (first | exact Drawn0.refl _ | apply Drawn0.step)⟩
 ·rw [if_neg c3] at H
  have c3b0 : decide (70 ≤ t288) = false := decide_eq_false c3
  clear c3
  by_cases c4 : t288 ≥ 0
  ·rw [if_pos c4] at H
   have c4b0 : decide (0 ≤ t288) = true := decide_eq_true c4
   clear c4
   obtain rfl := Option.some.inj H
   as_aux_lemma =>
    go_enter Tryd.func43, Tryd.ntmps43
    go_wp2_with (first | ((with_reducible refine gate_callee (f := 41) rfl ?_); refine goesL_ (some 5) rfl rfl Tryd.func41 (by kernel_rfl) rfl #[.string a0, .int .i64 2] rfl ca ?_; (with_reducible refine (newsreelref17_Number.calls k a0 2 t288 _ A2.out).mono ?_); rintro e w' ⟨rfl, ⟨nd, rfl⟩⟩; refine ⟨_, rfl, ?_⟩))
    go_ret
    exact ⟨by first | rfl | (simp; done) | (simp [*]; done), by repeat (first | exact Drawn0.refl _ | apply Drawn0.step)⟩
  ·rw [if_neg c4] at H
   have c4b0 : decide (0 ≤ t288) = false := decide_eq_false c4
   clear c4
   replace H := Option.bind_eq_some_iff.mp H
   obtain ⟨t289, A50, H⟩ := H
   replace H : (some t289) = some r := H
   have A5 := mkA A50
   clear A50
   obtain rfl := Option.some.inj H
   as_aux_lemma =>
    go_enter Tryd.func43, Tryd.ntmps43
    go_wp2_with (first | ((with_reducible refine gate_callee (f := 41) rfl ?_); refine goesL_ (some 5) rfl rfl Tryd.func41 (by kernel_rfl) rfl #[.string a0, .int .i64 2] rfl ca ?_; (with_reducible refine (newsreelref17_Number.calls k a0 2 t288 _ A2.out).mono ?_); rintro e w' ⟨rfl, ⟨nd, rfl⟩⟩; refine ⟨_, rfl, ?_⟩) | ((with_reducible refine gate_callee (f := 41) rfl ?_); refine goesL_ (some 15) rfl rfl Tryd.func41 (by kernel_rfl) rfl #[.string a0, .int .i64 4] rfl ca ?_; (with_reducible refine (newsreelref17_Number.calls k a0 4 t289 _ A5.out).mono ?_); rintro e w' ⟨rfl, ⟨nd, rfl⟩⟩; refine ⟨_, rfl, ?_⟩))
    go_ret
    exact ⟨by first | rfl | (simp; done) | (simp [*]; done), by repeat (first | exact Drawn0.refl _ | apply Drawn0.step)⟩

/-! ### newsreelref17_Gone: function 20 -/
mutual
def newsreelref17_Gone.l0 : Nat → Int → Int → Int → Int → Option (Int)
 | 0, _, _, _, _ => none
 | k + 1, x0, x1, x7, x8 => if x8 ≤ x0 then (newsreelref17_Gone.l1 k x0 x1 x7 x8 1) else (some x7)
def newsreelref17_Gone.l1 : Nat → Int → Int → Int → Int → Int → Option (Int)
 | 0, _, _, _, _, _ => none
 | k + 1, x0, x1, x7, x8, x9 => if x9 ≤ 12 then (if x8 < x0 then (newsreelref17_Gone.j2 k x0 x1 x7 x8 x9 true) else (newsreelref17_Gone.j2 k x0 x1 x7 x8 x9 (decide (x9 < x1)))) else (newsreelref17_Gone.j2 k x0 x1 x7 x8 x9 false)
def newsreelref17_Gone.j2 : Nat → Int → Int → Int → Int → Int → Bool → Option (Int)
 | 0, _, _, _, _, _, _ => none
 | k + 1, x0, x1, x7, x8, x9, x28 => if x28 = true then ((newsreelref17_Days.f k x8 x9).bind fun t325 => (newsreelref17_Gone.l1 k x0 x1 (wrap64 (x7 + t325)) x8 (wrap64 (x9 + 1)))) else (newsreelref17_Gone.l0 k x0 x1 x7 (wrap64 (x8 + 1)))
end
def newsreelref17_Gone.f (k : Nat) (a0 : Int) (a1 : Int) (a2 : Int) : Option (Int) := newsreelref17_Gone.l0 k a0 a1 (wrap64 (a2 - 1)) 1970
theorem newsreelref17_Gone.mono_l : ∀ k, (∀ y0 y1 y2 y3, LeO (newsreelref17_Gone.l0 k y0 y1 y2 y3) (newsreelref17_Gone.l0 (k + 1) y0 y1 y2 y3)) ∧ (∀ y0 y1 y2 y3 y4, LeO (newsreelref17_Gone.l1 k y0 y1 y2 y3 y4) (newsreelref17_Gone.l1 (k + 1) y0 y1 y2 y3 y4)) ∧ (∀ y0 y1 y2 y3 y4 y5, LeO (newsreelref17_Gone.j2 k y0 y1 y2 y3 y4 y5) (newsreelref17_Gone.j2 (k + 1) y0 y1 y2 y3 y4 y5))
 | 0 => ⟨fun _ _ _ _ r h => by simp [newsreelref17_Gone.l0] at h, fun _ _ _ _ _ r h => by simp [newsreelref17_Gone.l1] at h, fun _ _ _ _ _ _ r h => by simp [newsreelref17_Gone.j2] at h⟩
 | k + 1 => by
  obtain ⟨ih0, ih1, ih2⟩ := newsreelref17_Gone.mono_l k
  refine ⟨?_, ?_, ?_⟩
  ·intro y0 y1 y2 y3
   unfold newsreelref17_Gone.l0
   repeat' first
   | (with_reducible exact ih0 _ _ _ _)
   | (with_reducible exact ih1 _ _ _ _ _)
   | (with_reducible exact ih2 _ _ _ _ _ _)
   | (with_reducible exact newsreelref17_Days.mono _ _ _)
   | (with_reducible exact LeO.refl _)
   | (with_reducible exact LeO.none _)
   | (with_reducible refine LeO.ite ?_ ?_)
   | (with_reducible refine LeO.bind ?_ (fun _ => ?_))
   | exact ih0 _ _ _ _
   | exact ih1 _ _ _ _ _
   | exact ih2 _ _ _ _ _ _
   | exact newsreelref17_Days.mono _ _ _
   | exact LeO.none _
   | refine LeO.ite ?_ ?_
   | refine LeO.bind ?_ (fun _ => ?_)
  ·intro y0 y1 y2 y3 y4
   unfold newsreelref17_Gone.l1
   repeat' first
   | (with_reducible exact ih0 _ _ _ _)
   | (with_reducible exact ih1 _ _ _ _ _)
   | (with_reducible exact ih2 _ _ _ _ _ _)
   | (with_reducible exact newsreelref17_Days.mono _ _ _)
   | (with_reducible exact LeO.refl _)
   | (with_reducible exact LeO.none _)
   | (with_reducible refine LeO.ite ?_ ?_)
   | (with_reducible refine LeO.bind ?_ (fun _ => ?_))
   | exact ih0 _ _ _ _
   | exact ih1 _ _ _ _ _
   | exact ih2 _ _ _ _ _ _
   | exact newsreelref17_Days.mono _ _ _
   | exact LeO.none _
   | refine LeO.ite ?_ ?_
   | refine LeO.bind ?_ (fun _ => ?_)
  ·intro y0 y1 y2 y3 y4 y5
   unfold newsreelref17_Gone.j2
   repeat' first
   | (with_reducible exact ih0 _ _ _ _)
   | (with_reducible exact ih1 _ _ _ _ _)
   | (with_reducible exact ih2 _ _ _ _ _ _)
   | (with_reducible exact newsreelref17_Days.mono _ _ _)
   | (with_reducible exact LeO.refl _)
   | (with_reducible exact LeO.none _)
   | (with_reducible refine LeO.ite ?_ ?_)
   | (with_reducible refine LeO.bind ?_ (fun _ => ?_))
   | exact ih0 _ _ _ _
   | exact ih1 _ _ _ _ _
   | exact ih2 _ _ _ _ _ _
   | exact newsreelref17_Days.mono _ _ _
   | exact LeO.none _
   | refine LeO.ite ?_ ?_
   | refine LeO.bind ?_ (fun _ => ?_)
theorem newsreelref17_Gone.mono : ∀ a0 a1 a2 k, LeO (newsreelref17_Gone.f k a0 a1 a2) (newsreelref17_Gone.f (k + 1) a0 a1 a2) := by
 intro a0 a1 a2 k
 obtain ⟨ih0, ih1, ih2⟩ := newsreelref17_Gone.mono_l k
 unfold newsreelref17_Gone.f
 repeat' first
   | (with_reducible exact ih0 _ _ _ _)
   | (with_reducible exact ih1 _ _ _ _ _)
   | (with_reducible exact ih2 _ _ _ _ _ _)
   | (with_reducible exact newsreelref17_Days.mono _ _ _)
   | (with_reducible exact LeO.refl _)
   | (with_reducible exact LeO.none _)
   | (with_reducible refine LeO.ite ?_ ?_)
   | (with_reducible refine LeO.bind ?_ (fun _ => ?_))
   | exact ih0 _ _ _ _
   | exact ih1 _ _ _ _ _
   | exact ih2 _ _ _ _ _ _
   | exact newsreelref17_Days.mono _ _ _
   | exact LeO.none _
   | refine LeO.ite ?_ ?_
   | refine LeO.bind ?_ (fun _ => ?_)
set_option maxHeartbeats 8000000 in
set_option maxRecDepth 100000 in
theorem newsreelref17_Gone.calls (k : Nat) (a0 : Int) (a1 : Int) (a2 : Int) (r : Int) (w : World) (h : newsreelref17_Gone.f k a0 a1 a2 = some r) :
  Calls Tryd.prog 20 #[.int .i64 a0, .int .i64 a1, .int .i64 a2] w fun e w' => e = .returned (.int .i64 r) ∧ Drawn0 w w' := by
 have H : (newsreelref17_Gone.l0 k a0 a1 (wrap64 (a2 - 1)) 1970) = some r := h
 clear h
 have H' := mkA H
 clear H
 go_enter Tryd.func20, Tryd.ntmps20
 go_wp2
 go_loopg [7, 8] k (fun kq v7 v8 w' => ∃ (x7_1 : Int) (x8_1 : Int), v7 = .int .i64 x7_1 ∧ v8 = .int .i64 x8_1 ∧ Aside0 (newsreelref17_Gone.l0 kq a0 a1 x7_1 x8_1 = some r) ∧ Aside0 (kq ≤ k) ∧ Drawn0 w w')
 case atStart => exact ⟨(wrap64 (a2 - 1)), (1970), (by first | rfl | (simp; done) | (simp [*]; done)), (by first | rfl | (simp; done) | (simp [*]; done)), H', ⟨Nat.le_refl _⟩, by repeat (first | exact Drawn0.refl _ | apply Drawn0.step)⟩
 case round =>
  clear H'
  try clear c2
  try clear p2
  obtain ⟨x7_1, x8_1, rfl, rfl, HA, HK1, ⟨m1, rfl⟩⟩ := hrel
  cases gk with
  | zero => exact absurd HA.out (by simp [newsreelref17_Gone.l0])
  | succ k1 =>
   have H := HA.out
   clear HA
   simp only [newsreelref17_Gone.l0] at H
   by_cases c4 : x8_1 ≤ a0
   ·rw [if_pos c4] at H
    have c4b0 : decide (x8_1 ≤ a0) = true := decide_eq_true c4
    clear c4
    have H' := mkA H
    clear H
    go_wp2
    go_loopg [7, 9] k1 (fun kq v7 v9 w' => ∃ (x7_2 : Int) (x9_2 : Int), v7 = .int .i64 x7_2 ∧ v9 = .int .i64 x9_2 ∧ Aside0 (newsreelref17_Gone.l1 kq a0 a1 x7_2 x8_1 x9_2 = some r) ∧ Aside0 (kq ≤ k1) ∧ Drawn0 w w')
    case atStart => exact ⟨(x7_1), (1), (by first | rfl | (simp; done) | (simp [*]; done)), (by first | rfl | (simp; done) | (simp [*]; done)), H', ⟨Nat.le_refl _⟩, by repeat (first | exact Drawn0.refl _ | apply Drawn0.step)⟩
    case round =>
     clear H'
     try clear c2
     try clear p2
     try clear c4
     try clear c4b0
     try clear p2
     obtain ⟨x7_2, x9_2, rfl, rfl, HA, HK2, ⟨m2, rfl⟩⟩ := hrel
     cases gk with
     | zero => exact absurd HA.out (by simp [newsreelref17_Gone.l1])
     | succ k2 =>
      have H := HA.out
      clear HA
      simp only [newsreelref17_Gone.l1] at H
      have HC5 := mkA H
      clear H
      go_upto_region 6 with (fail)
      go_cut [28] (fun v28 wc => ∃ (kq : Nat) (x28_4 : Bool), v28 = .bool x28_4 ∧ Aside0 (newsreelref17_Gone.j2 kq a0 a1 x7_2 x8_1 x9_2 x28_4 = some r) ∧ Aside0 (kq ≤ k2) ∧ Drawn0 w wc)
      case first =>
       have H := HC5.out
       clear HC5
       by_cases c6 : x9_2 ≤ 12
       ·rw [if_pos c6] at H
        have c6b0 : decide (x9_2 ≤ 12) = true := decide_eq_true c6
        clear c6
        (first | rw [c6b0] | (simp only [i64_w, i32_w]; rw [c6b0]) | skip)
        by_cases c7 : x8_1 < a0
        ·rw [if_pos c7] at H
         have c7b0 : decide (x8_1 < a0) = true := decide_eq_true c7
         clear c7
         as_aux_lemma =>
          have H' := mkA H
          clear H
          go_wp2
          go_meet
          case rel => exact ⟨_, (true), (by first | rfl | (simp; done) | (simp [*]; done)), H', ⟨by have := HK1.out; have := HK2.out; first | omega | exact Nat.le_refl _⟩, by repeat (first | exact Drawn0.refl _ | apply Drawn0.step)⟩
        ·rw [if_neg c7] at H
         have c7b0 : decide (x8_1 < a0) = false := decide_eq_false c7
         clear c7
         as_aux_lemma =>
          have H' := mkA H
          clear H
          go_wp2
          go_meet
          case rel => exact ⟨_, (decide (x9_2 < a1)), (by first | rfl | (simp; done) | (simp [*]; done)), H', ⟨by have := HK1.out; have := HK2.out; first | omega | exact Nat.le_refl _⟩, by repeat (first | exact Drawn0.refl _ | apply Drawn0.step)⟩
       ·rw [if_neg c6] at H
        have c6b0 : decide (x9_2 ≤ 12) = false := decide_eq_false c6
        clear c6
        (first | rw [c6b0] | (simp only [i64_w, i32_w]; rw [c6b0]) | skip)
        as_aux_lemma =>
         have H' := mkA H
         clear H
         go_wp2
         go_meet
         case rel => exact ⟨_, (false), (by first | rfl | (simp; done) | (simp [*]; done)), H', ⟨by have := HK1.out; have := HK2.out; first | omega | exact Nat.le_refl _⟩, by repeat (first | exact Drawn0.refl _ | apply Drawn0.step)⟩
      case rest =>
       clear HC5
       try clear c2
       try clear p2
       try clear c4
       try clear c4b0
       try clear c6
       try clear c6b0
       try clear p6
       try clear c7
       try clear c7b0
       try clear p2
       obtain ⟨kq, x28_4, rfl, HA, HJ4, ⟨mc4, rfl⟩⟩ := hcut
       cases kq with
       | zero => exact absurd HA.out (by simp [newsreelref17_Gone.j2])
       | succ kj4 =>
        have H := HA.out
        clear HA
        simp only [newsreelref17_Gone.j2] at H
        by_cases c8 : x28_4 = true
        ·subst c8
         have H1 : ((newsreelref17_Days.f kj4 x8_1 x9_2).bind fun t325 => (newsreelref17_Gone.l1 kj4 a0 a1 (wrap64 (x7_2 + t325)) x8_1 (wrap64 (x9_2 + 1)))) = some r := by rw [if_pos rfl] at H; exact H
         clear H
         have H := H1
         clear H1
         replace H := Option.bind_eq_some_iff.mp H
         obtain ⟨t325, A90, H⟩ := H
         replace H : (newsreelref17_Gone.l1 kj4 a0 a1 (wrap64 (x7_2 + t325)) x8_1 (wrap64 (x9_2 + 1))) = some r := H
         have A9 := mkA A90
         clear A90
         as_aux_lemma =>
          have H' := mkA H
          clear H
          go_wp2_with (first | ((with_reducible refine gate_callee (f := 11) rfl ?_); refine goesL_ (some 34) rfl rfl Tryd.func11 (by kernel_rfl) rfl #[.int .i64 x8_1, .int .i64 x9_2] rfl ca ?_; (with_reducible refine (newsreelref17_Days.calls kj4 x8_1 x9_2 t325 _ A9.out).mono ?_); rintro e w' ⟨rfl, ⟨nd, rfl⟩⟩; refine ⟨_, rfl, ?_⟩))
          go_roundg kj4
          case measure => have := HK1.out; have := HK2.out; have := HJ4.out; omega
          case rel => exact ⟨(wrap64 (x7_2 + t325)), (wrap64 (x9_2 + 1)), (by first | rfl | (simp; done) | (simp [*]; done)), (by first | rfl | (simp; done) | (simp [*]; done)), H', ⟨by have := HK1.out; have := HK2.out; have := HJ4.out; omega⟩, by repeat (first | exact Drawn0.refl _ | apply Drawn0.step)⟩
        ·replace c8 := Bool.eq_false_iff.mpr c8
         subst c8
         have H1 : (newsreelref17_Gone.l0 kj4 a0 a1 x7_2 (wrap64 (x8_1 + 1))) = some r := by rw [if_neg (show ¬ (false = true) by decide)] at H; exact H
         clear H
         have H := H1
         clear H1
         as_aux_lemma =>
          have H' := mkA H
          clear H
          go_wp2
          go_roundg kj4
          case measure => have := HK1.out; have := HK2.out; have := HJ4.out; omega
          case rel => exact ⟨(x7_2), (wrap64 (x8_1 + 1)), (by first | rfl | (simp; done) | (simp [*]; done)), (by first | rfl | (simp; done) | (simp [*]; done)), H', ⟨by have := HK1.out; have := HK2.out; have := HJ4.out; omega⟩, by repeat (first | exact Drawn0.refl _ | apply Drawn0.step)⟩
   ·rw [if_neg c4] at H
    have c4b0 : decide (x8_1 ≤ a0) = false := decide_eq_false c4
    clear c4
    as_aux_lemma =>
     obtain rfl := Option.some.inj H
     go_wp2
     go_ret
     exact ⟨by first | rfl | (simp; done) | (simp [*]; done), by repeat (first | exact Drawn0.refl _ | apply Drawn0.step)⟩

/-! ### newsreelref17_great: function 24 -/
def newsreelref17_great.f (a0 : ByteArray) : Option (ByteArray) := if 0 < (a0.size : Int) then ((some (([((bt a0 0) - 32) % 256] : List Int) : List Int)).bind fun y339 => (if 1 ≤ (a0.size : Int) then (if (strOfNums y339).size + (a0.extract 1 a0.size).size ≤ 9223372036854775807 then (some ((strOfNums y339) ++ (a0.extract 1 a0.size))) else (none)) else (none))) else (none)
def newsreelref17_great.T1 : Bool × List (List Nat × List Nat) := (true, [([], []), ([0], [0]), ([1], [1]), ([2], [2]), ([3], [3]), ([], []), ([5], [5]), ([4, 6], [4, 6]), ([7, 0, 1, 2, 3, 4, 5, 6, 7], [7])])
def newsreelref17_great.B1 : List Nat := [0, 1, 3, 7, 15, 0, 32, 127, 255]
theorem newsreelref17_great.tab1 : rtab .any (opsOf Tryd.f24 1) = newsreelref17_great.T1 := by kernel_rfl
theorem newsreelref17_great.bits1 : waitsOk newsreelref17_great.T1.2 newsreelref17_great.B1 = true := by kernel_rfl
set_option maxHeartbeats 8000000 in
set_option maxRecDepth 100000 in
theorem newsreelref17_great.calls (a0 : ByteArray) (r : ByteArray) (w : World) (h : newsreelref17_great.f a0 = some r) :
  Calls Tryd.prog 24 #[.string a0] w fun e w' => e = .returned (.string r) ∧ Below w.heap.size w w' := by
 have HB := mkA (Below.refl w.heap.size w)
 have H : (if 0 < (a0.size : Int) then ((some (([((bt a0 0) - 32) % 256] : List Int) : List Int)).bind fun y339 => (if 1 ≤ (a0.size : Int) then (if (strOfNums y339).size + (a0.extract 1 a0.size).size ≤ 9223372036854775807 then (some ((strOfNums y339) ++ (a0.extract 1 a0.size))) else (none)) else (none))) else (none)) = some r := h
 clear h
 by_cases c2 : 0 < (a0.size : Int)
 ·rw [if_pos c2] at H
  have c2b0 : decide (0 < (a0.size : Int)) = true := decide_eq_true c2
  have c2b1 : decide (0 < a0.size) = true := decide_eq_true (by omega)
  clear c2
  obtain ⟨y339, hy339⟩ : ∃ y_ : List Int, y_ = (([((bt a0 0) - 32) % 256] : List Int)) := ⟨_, rfl⟩
  replace H : (if 1 ≤ (a0.size : Int) then (if (strOfNums y339).size + (a0.extract 1 a0.size).size ≤ 9223372036854775807 then (some ((strOfNums y339) ++ (a0.extract 1 a0.size))) else (none)) else (none)) = some r := by first | (rw [hy339]; with_reducible exact H) | (have H2_ := (Option.bind_some _ _).symm.trans H; rw [hy339]; with_reducible exact H2_) | (have H2_ := (Option.bind_some _ _).symm.trans H; with_reducible exact H2_) | with_reducible exact H | (rw [hy339]; exact H) | exact H
  have Ny339 := mkA hy339
  clear hy339
  by_cases c4 : 1 ≤ (a0.size : Int)
  ·rw [if_pos c4] at H
   have c4b0 := eq_true c4
   have c4b1 : decide (1 ≤ (a0.size : Int)) = true := decide_eq_true c4
   clear c4
   by_cases c5 : (strOfNums y339).size + (a0.extract 1 a0.size).size ≤ 9223372036854775807
   ·rw [if_pos c5] at H
    have c5b0 := eq_true c5
    have c5b1 : decide ((strOfNums y339).size + (a0.extract 1 a0.size).size ≤ 9223372036854775807) = true := decide_eq_true c5
    try have c5b2 : (9223372036854775807 < (strOfNums y339).size + (a0.extract 1 a0.size).size) = False := eq_false (Nat.not_lt.2 c5)
    have c5e : (9223372036854775807 < (strOfNums y339).size + (a0.size - 1)) = False := eq_false (by have h8 := c5; simp only [ByteArray.size_extract] at h8; omega)
    obtain rfl := Option.some.inj H
    as_aux_lemma =>
     go_enter Tryd.func24, Tryd.ntmps24
     try go_wp2
     have n0_ := mkA (below_drew1 HB.out)
     clear HB
     have HB := n0_
     clear n0_
     have p3 : 0 ≤ (0 : Int) := (by omega)
     have q3 : 0 < a0.size := (by have : (0 : Int) < (a0.size : Int) := odt; omega)
     have hx3 : ∀ h : 0 < a0.size, ((a0[0]'h).toNat : Int) = bt a0 0 := bt_at a0 0
     clear p3
     have qi3 : (0 < (a0.size : Int)) = True := eq_true (odt)
     replace q3 := eq_true q3
     refine start_ (n := 9) (S := fun w' => True) (ds := []) #[false, false, false, false, false, false, false, false, false] (by kernel_rfl) rfl rfl trivial (fun hHeld => ?_); refine with_tabW newsreelref17_great.tab1 newsreelref17_great.bits1 (fun HT_ HW_ => ?_)
     generalize w.drew = w6 at HB hHeld ⊢
     refine pu 0 3 HT_ ?_
     refine pu 5 8 HT_ ?_
     refine pu 6 9 HT_ ?_
     refine tk 1 4 HT_ HW_ hHeld ?_
     refine pu 2 5 HT_ ?_
     refine one_ (i := 3) (N := some 6) #[true, true, true, true, false, true, true, false, false] rfl rfl (one_of HT_.out (by kernel_rfl)) (by decide) (fun K hK => ?_)
     refine Kd.R_lit_step (Kd.int .u8) _ 5 ?hg (N := 6) ?hd (xs := ([((bt a0 0) - 32) % 256] : List Int)) (inner := [.int .u8 (((bt a0 0) - 32) % 256)]) (ok := fun _ => True) (okp := fun _ => True) ?hr ?hp (fun _ hk => hk) trivial (Below.refl _ _) (Nat.le_refl _) (by simp) ?_; (case hd => rfl); (case hg => rfl); (case hr => first | (go_simp; done) | (go_simp; rfl)); (case hp => exact (Reps.one (show Kd.M (Kd.int .u8) _ _ _ (((bt a0 0) - 32) % 256) [.int .u8 (((bt a0 0) - 32) % 256)] from rfl) (Reps.none _ _)))
     intro v340 w7 ho8 hb hg_ hnew_
     clear hg_ hnew_
     (first | rw [← Ny339.out] at ho8 | (simp only [Int.reduceToNat] at ho8; rw [← Ny339.out] at ho8))
     have n0_ := mkA (Kd.R_lower ho8 (below_size (below_y HB.out)))
     have n1_ := mkA (below_step (below_y HB.out) hb)
     clear HB
     have HO341 := n0_
     have HB := n1_
     clear n0_ n1_ hb ho8
     refine hK.out _ _ trivial (fun hHeld => ?_)
     clear hK K
     refine norm_ (a' := ?_) ?_ ?_
     rotate_left
     ·show Act.put _ (some 6) _ = _
      simp only [Act.put, sA, s0, sS, i64_w, i32_w]
      rfl
     refine one_ (i := 4) (N := some 7) #[true, true, true, true, true, true, true, false, false] rfl rfl (one_of HT_.out (by kernel_rfl)) (by decide) (fun K hK => ?_)
     have hcv9 := own_string (P := Tryd.prog) Tryd.underlying33 Tryd.underlying5 Tryd.underlying9 (Kd.own_of_R HO341.out)
     refine value_ (w1 := ?_) (v := ?_) (by rfl) rfl ?_ ?_
     rotate_left 2
     ·go_simp
      constructor
      ·rfl
      ·rfl
     clear hcv9
     refine hK.out _ _ trivial (fun hHeld => ?_)
     clear hK K
     refine norm_ (a' := ?_) ?_ ?_
     rotate_left
     ·show Act.put _ (some 7) _ = _
      simp only [Act.put, sA, s0, sS, i64_w, i32_w]
      rfl
     refine pu 7 10 HT_ ?_
     refine pu 8 2 HT_ ?_
     refine done_ (done_of HT_.out (by kernel_rfl)) ?_
     try go_wp2
     go_ret
     exact ⟨by first | rfl | (simp [errW_none, errW_some] <;> rfl) | (simp [*, errW_none, errW_some] <;> rfl), below_y HB.out⟩
   ·rw [if_neg c5] at H
    exact absurd H (by simp)
  ·rw [if_neg c4] at H
   exact absurd H (by simp)
 ·rw [if_neg c2] at H
  exact absurd H (by simp)

/-! ### newsreelref01_Put: function 27 -/
mutual
def newsreelref01_Put.j0 : Nat → Int → Bool → Option (ByteArray)
 | 0, _, _ => none
 | k + 1, x0, x8 => if x8 = true then (if 0 ≤ x0 then (if x0 ≤ (wrap64 (x0 + 1)) then (if (wrap64 (x0 + 1)) ≤ 10 then (some ((⟨#[48, 49, 50, 51, 52, 53, 54, 55, 56, 57]⟩ : ByteArray).extract (x0 : Int).toNat ((wrap64 (x0 + 1)) : Int).toNat)) else (none)) else (none)) else (none)) else (if x0 > 0 then ((newsreelref01_Put.f k (wrap64 (Int.tdiv x0 10))).bind fun t342 => ((newsreelref01_Put.f k (Int.tmod x0 10)).bind fun t343 => (if t342.size + t343.size ≤ 9223372036854775807 then (some (t342 ++ t343)) else (none)))) else (if x0 > (-10) then ((newsreelref01_Put.f k (wrap64 (-x0))).bind fun t344 => (if 1 + t344.size ≤ 9223372036854775807 then (some ((⟨#[45]⟩ : ByteArray) ++ t344)) else (none))) else ((newsreelref01_Put.f k (wrap64 (Int.tdiv x0 10))).bind fun t345 => ((newsreelref01_Put.f k (wrap64 (-(Int.tmod x0 10)))).bind fun t346 => (if t345.size + t346.size ≤ 9223372036854775807 then (some (t345 ++ t346)) else (none))))))
def newsreelref01_Put.f : Nat → Int → Option (ByteArray)
 | 0, _ => none
 | k + 1, a0 => if a0 ≥ 0 then (newsreelref01_Put.j0 k a0 (decide (a0 < 10))) else (newsreelref01_Put.j0 k a0 false)
end
theorem newsreelref01_Put.mono_l : ∀ k, (∀ y0, LeO (newsreelref01_Put.f k y0) (newsreelref01_Put.f (k + 1) y0)) ∧ (∀ y0 y1, LeO (newsreelref01_Put.j0 k y0 y1) (newsreelref01_Put.j0 (k + 1) y0 y1))
 | 0 => ⟨fun _ r h => by simp [newsreelref01_Put.f] at h, fun _ _ r h => by simp [newsreelref01_Put.j0] at h⟩
 | k + 1 => by
  obtain ⟨ih0, ih1⟩ := newsreelref01_Put.mono_l k
  refine ⟨?_, ?_⟩
  ·intro y0
   unfold newsreelref01_Put.f
   repeat' first
   | (with_reducible exact ih0 _)
   | (with_reducible exact ih1 _ _)
   | (with_reducible exact LeO.refl _)
   | (with_reducible exact LeO.none _)
   | (with_reducible refine LeO.ite ?_ ?_)
   | (with_reducible refine LeO.bind ?_ (fun _ => ?_))
   | exact ih0 _
   | exact ih1 _ _
   | exact LeO.none _
   | refine LeO.ite ?_ ?_
   | refine LeO.bind ?_ (fun _ => ?_)
  ·intro y0 y1
   unfold newsreelref01_Put.j0
   repeat' first
   | (with_reducible exact ih0 _)
   | (with_reducible exact ih1 _ _)
   | (with_reducible exact LeO.refl _)
   | (with_reducible exact LeO.none _)
   | (with_reducible refine LeO.ite ?_ ?_)
   | (with_reducible refine LeO.bind ?_ (fun _ => ?_))
   | exact ih0 _
   | exact ih1 _ _
   | exact LeO.none _
   | refine LeO.ite ?_ ?_
   | refine LeO.bind ?_ (fun _ => ?_)
theorem newsreelref01_Put.mono : ∀ a0 k, LeO (newsreelref01_Put.f k a0) (newsreelref01_Put.f (k + 1) a0) := by
 intro a0 k
 obtain ⟨ih0, ih1⟩ := newsreelref01_Put.mono_l k
 exact ih0 a0
set_option maxHeartbeats 8000000 in
set_option maxRecDepth 100000 in
theorem newsreelref01_Put.calls (k : Nat) : ∀ (a0 : Int) (r : ByteArray) (w : World) (h : newsreelref01_Put.f k a0 = some r),
  Calls Tryd.prog 27 #[.int .i64 a0] w fun e w' => e = .returned (.string r) ∧ Drawn0 w w' := by
 induction k using Nat.strongRecOn with
 | _ k ih =>
 intro a0 r w h
 cases k with
 | zero => exact absurd h (by simp [newsreelref01_Put.f])
 | succ k =>
 simp only [newsreelref01_Put.f] at h
 have H : (if a0 ≥ 0 then (newsreelref01_Put.j0 k a0 (decide (a0 < 10))) else (newsreelref01_Put.j0 k a0 false)) = some r := h
 clear h
 have HC2 := mkA H
 clear H
 go_enter Tryd.func27, Tryd.ntmps27
 go_upto_region 1 with (fail)
 go_cut [8] (fun v8 wc => ∃ (kq : Nat) (x8_1 : Bool), v8 = .bool x8_1 ∧ Aside0 (newsreelref01_Put.j0 kq a0 x8_1 = some r) ∧ Aside0 (kq ≤ k) ∧ Drawn0 w wc)
 case first =>
  have H := HC2.out
  clear HC2
  by_cases c3 : a0 ≥ 0
  ·rw [if_pos c3] at H
   have c3b0 : decide (0 ≤ a0) = true := decide_eq_true c3
   clear c3
   (first | rw [c3b0] | (simp only [i64_w, i32_w]; rw [c3b0]) | skip)
   as_aux_lemma =>
    have H' := mkA H
    clear H
    go_wp2
    go_meet
    case rel => exact ⟨_, (decide (a0 < 10)), (by first | rfl | (simp; done) | (simp [*]; done)), H', ⟨by first | omega | exact Nat.le_refl _⟩, by repeat (first | exact Drawn0.refl _ | apply Drawn0.step)⟩
  ·rw [if_neg c3] at H
   have c3b0 : decide (0 ≤ a0) = false := decide_eq_false c3
   clear c3
   (first | rw [c3b0] | (simp only [i64_w, i32_w]; rw [c3b0]) | skip)
   as_aux_lemma =>
    have H' := mkA H
    clear H
    go_wp2
    go_meet
    case rel => exact ⟨_, (false), (by first | rfl | (simp; done) | (simp [*]; done)), H', ⟨by first | omega | exact Nat.le_refl _⟩, by repeat (first | exact Drawn0.refl _ | apply Drawn0.step)⟩
 case rest =>
  clear HC2
  try clear c2
  try clear p2
  try clear c3
  try clear c3b0
  obtain ⟨kq, x8_1, rfl, HA, HJ1, ⟨mc1, rfl⟩⟩ := hcut
  cases kq with
  | zero => exact absurd HA.out (by simp [newsreelref01_Put.j0])
  | succ kj1 =>
   have H := HA.out
   clear HA
   simp only [newsreelref01_Put.j0] at H
   by_cases c4 : x8_1 = true
   ·subst c4
    have H1 : (if 0 ≤ a0 then (if a0 ≤ (wrap64 (a0 + 1)) then (if (wrap64 (a0 + 1)) ≤ 10 then (some ((⟨#[48, 49, 50, 51, 52, 53, 54, 55, 56, 57]⟩ : ByteArray).extract (a0 : Int).toNat ((wrap64 (a0 + 1)) : Int).toNat)) else (none)) else (none)) else (none)) = some r := by rw [if_pos rfl] at H; exact H
    clear H
    have H := H1
    clear H1
    by_cases c5 : 0 ≤ a0
    ·rw [if_pos c5] at H
     have c5b0 := eq_true c5
     have c5b1 : decide (0 ≤ a0) = true := decide_eq_true c5
     clear c5
     by_cases c6 : a0 ≤ (wrap64 (a0 + 1))
     ·rw [if_pos c6] at H
      have c6b0 := eq_true c6
      have c6b1 : decide (a0 ≤ (wrap64 (a0 + 1))) = true := decide_eq_true c6
      by_cases c7 : (wrap64 (a0 + 1)) ≤ 10
      ·rw [if_pos c7] at H
       have c7b0 := eq_true c7
       have c7b1 : decide ((wrap64 (a0 + 1)) ≤ 10) = true := decide_eq_true c7
       as_aux_lemma =>
        obtain rfl := Option.some.inj H
        go_wp2
        go_ret
        exact ⟨by first | rfl | (simp; done) | (simp [*]; done), by repeat (first | exact Drawn0.refl _ | apply Drawn0.step)⟩
      ·rw [if_neg c7] at H
       exact absurd H (by simp)
     ·rw [if_neg c6] at H
      exact absurd H (by simp)
    ·rw [if_neg c5] at H
     exact absurd H (by simp)
   ·replace c4 := Bool.eq_false_iff.mpr c4
    subst c4
    have H1 : (if a0 > 0 then ((newsreelref01_Put.f kj1 (wrap64 (Int.tdiv a0 10))).bind fun t342 => ((newsreelref01_Put.f kj1 (Int.tmod a0 10)).bind fun t343 => (if t342.size + t343.size ≤ 9223372036854775807 then (some (t342 ++ t343)) else (none)))) else (if a0 > (-10) then ((newsreelref01_Put.f kj1 (wrap64 (-a0))).bind fun t344 => (if 1 + t344.size ≤ 9223372036854775807 then (some ((⟨#[45]⟩ : ByteArray) ++ t344)) else (none))) else ((newsreelref01_Put.f kj1 (wrap64 (Int.tdiv a0 10))).bind fun t345 => ((newsreelref01_Put.f kj1 (wrap64 (-(Int.tmod a0 10)))).bind fun t346 => (if t345.size + t346.size ≤ 9223372036854775807 then (some (t345 ++ t346)) else (none)))))) = some r := by rw [if_neg (show ¬ (false = true) by decide)] at H; exact H
    clear H
    have H := H1
    clear H1
    by_cases c8 : a0 > 0
    ·rw [if_pos c8] at H
     have c8b0 : decide (0 < a0) = true := decide_eq_true c8
     clear c8
     replace H := Option.bind_eq_some_iff.mp H
     obtain ⟨t342, A90, H⟩ := H
     replace H : ((newsreelref01_Put.f kj1 (Int.tmod a0 10)).bind fun t343 => (if t342.size + t343.size ≤ 9223372036854775807 then (some (t342 ++ t343)) else (none))) = some r := H
     have A9 := mkA A90
     clear A90
     replace H := Option.bind_eq_some_iff.mp H
     obtain ⟨t343, A100, H⟩ := H
     replace H : (if t342.size + t343.size ≤ 9223372036854775807 then (some (t342 ++ t343)) else (none)) = some r := H
     have A10 := mkA A100
     clear A100
     by_cases c11 : t342.size + t343.size ≤ 9223372036854775807
     ·rw [if_pos c11] at H
      have c11b0 := eq_true c11
      have c11b1 : decide (t342.size + t343.size ≤ 9223372036854775807) = true := decide_eq_true c11
      try have c11b2 : (9223372036854775807 < t342.size + t343.size) = False := eq_false (Nat.not_lt.2 c11)
      as_aux_lemma =>
       obtain rfl := Option.some.inj H
       go_wp2_with (first | ((with_reducible refine gate_callee (f := 27) rfl ?_); refine goesL_ (some 17) rfl rfl Tryd.func27 (by kernel_rfl) rfl #[.int .i64 (wrap64 (Int.tdiv a0 10))] rfl ca ?_; (with_reducible refine (ih kj1 (by have := HJ1.out; omega) (wrap64 (Int.tdiv a0 10)) t342 _ A9.out).mono ?_); rintro e w' ⟨rfl, ⟨nd, rfl⟩⟩; refine ⟨_, rfl, ?_⟩) | ((with_reducible refine gate_callee (f := 27) rfl ?_); refine goesL_ (some 20) rfl rfl Tryd.func27 (by kernel_rfl) rfl #[.int .i64 (Int.tmod a0 10)] rfl ca ?_; (with_reducible refine (ih kj1 (by have := HJ1.out; omega) (Int.tmod a0 10) t343 _ A10.out).mono ?_); rintro e w' ⟨rfl, ⟨nd, rfl⟩⟩; refine ⟨_, rfl, ?_⟩))
       go_ret
       exact ⟨by first | rfl | (simp; done) | (simp [*]; done), by repeat (first | exact Drawn0.refl _ | apply Drawn0.step)⟩
     ·rw [if_neg c11] at H
      exact absurd H (by simp)
    ·rw [if_neg c8] at H
     have c8b0 : decide (0 < a0) = false := decide_eq_false c8
     clear c8
     by_cases c12 : a0 > (-10)
     ·rw [if_pos c12] at H
      have c12b0 : decide ((-10) < a0) = true := decide_eq_true c12
      clear c12
      replace H := Option.bind_eq_some_iff.mp H
      obtain ⟨t344, A130, H⟩ := H
      replace H : (if 1 + t344.size ≤ 9223372036854775807 then (some ((⟨#[45]⟩ : ByteArray) ++ t344)) else (none)) = some r := H
      have A13 := mkA A130
      clear A130
      by_cases c14 : 1 + t344.size ≤ 9223372036854775807
      ·rw [if_pos c14] at H
       have c14b0 := eq_true c14
       have c14b1 : decide (1 + t344.size ≤ 9223372036854775807) = true := decide_eq_true c14
       try have c14b2 : (9223372036854775807 < 1 + t344.size) = False := eq_false (Nat.not_lt.2 c14)
       as_aux_lemma =>
        obtain rfl := Option.some.inj H
        go_wp2_with (first | ((with_reducible refine gate_callee (f := 27) rfl ?_); refine goesL_ (some 26) rfl rfl Tryd.func27 (by kernel_rfl) rfl #[.int .i64 (wrap64 (-a0))] rfl ca ?_; (with_reducible refine (ih kj1 (by have := HJ1.out; omega) (wrap64 (-a0)) t344 _ A13.out).mono ?_); rintro e w' ⟨rfl, ⟨nd, rfl⟩⟩; refine ⟨_, rfl, ?_⟩))
        go_ret
        exact ⟨by first | rfl | (simp; done) | (simp [*]; done), by repeat (first | exact Drawn0.refl _ | apply Drawn0.step)⟩
      ·rw [if_neg c14] at H
       exact absurd H (by simp)
     ·rw [if_neg c12] at H
      have c12b0 : decide ((-10) < a0) = false := decide_eq_false c12
      clear c12
      replace H := Option.bind_eq_some_iff.mp H
      obtain ⟨t345, A150, H⟩ := H
      replace H : ((newsreelref01_Put.f kj1 (wrap64 (-(Int.tmod a0 10)))).bind fun t346 => (if t345.size + t346.size ≤ 9223372036854775807 then (some (t345 ++ t346)) else (none))) = some r := H
      have A15 := mkA A150
      clear A150
      replace H := Option.bind_eq_some_iff.mp H
      obtain ⟨t346, A160, H⟩ := H
      replace H : (if t345.size + t346.size ≤ 9223372036854775807 then (some (t345 ++ t346)) else (none)) = some r := H
      have A16 := mkA A160
      clear A160
      by_cases c17 : t345.size + t346.size ≤ 9223372036854775807
      ·rw [if_pos c17] at H
       have c17b0 := eq_true c17
       have c17b1 : decide (t345.size + t346.size ≤ 9223372036854775807) = true := decide_eq_true c17
       try have c17b2 : (9223372036854775807 < t345.size + t346.size) = False := eq_false (Nat.not_lt.2 c17)
       as_aux_lemma =>
        obtain rfl := Option.some.inj H
        go_wp2_with (first | ((with_reducible refine gate_callee (f := 27) rfl ?_); refine goesL_ (some 30) rfl rfl Tryd.func27 (by kernel_rfl) rfl #[.int .i64 (wrap64 (Int.tdiv a0 10))] rfl ca ?_; (with_reducible refine (ih kj1 (by have := HJ1.out; omega) (wrap64 (Int.tdiv a0 10)) t345 _ A15.out).mono ?_); rintro e w' ⟨rfl, ⟨nd, rfl⟩⟩; refine ⟨_, rfl, ?_⟩) | ((with_reducible refine gate_callee (f := 27) rfl ?_); refine goesL_ (some 34) rfl rfl Tryd.func27 (by kernel_rfl) rfl #[.int .i64 (wrap64 (-(Int.tmod a0 10)))] rfl ca ?_; (with_reducible refine (ih kj1 (by have := HJ1.out; omega) (wrap64 (-(Int.tmod a0 10))) t346 _ A16.out).mono ?_); rintro e w' ⟨rfl, ⟨nd, rfl⟩⟩; refine ⟨_, rfl, ?_⟩))
        go_ret
        exact ⟨by first | rfl | (simp; done) | (simp [*]; done), by repeat (first | exact Drawn0.refl _ | apply Drawn0.step)⟩
      ·rw [if_neg c17] at H
       exact absurd H (by simp)

/-! ### newsreelref17_two: function 26 -/
def newsreelref17_two.f (k : Nat) (a0 : Int) : Option (ByteArray) := (newsreelref01_Put.f k (wrap64 (Int.tdiv a0 10))).bind fun t347 => ((newsreelref01_Put.f k (Int.tmod a0 10)).bind fun t348 => (if t347.size + t348.size ≤ 9223372036854775807 then (some (t347 ++ t348)) else (none)))
theorem newsreelref17_two.mono : ∀ a0 k, LeO (newsreelref17_two.f k a0) (newsreelref17_two.f (k + 1) a0) := by
 intro a0 k
 unfold newsreelref17_two.f
 repeat' first
   | (with_reducible exact newsreelref01_Put.mono _ _)
   | (with_reducible exact LeO.refl _)
   | (with_reducible exact LeO.none _)
   | (with_reducible refine LeO.ite ?_ ?_)
   | (with_reducible refine LeO.bind ?_ (fun _ => ?_))
   | exact newsreelref01_Put.mono _ _
   | exact LeO.none _
   | refine LeO.ite ?_ ?_
   | refine LeO.bind ?_ (fun _ => ?_)
set_option maxHeartbeats 8000000 in
set_option maxRecDepth 100000 in
theorem newsreelref17_two.calls (k : Nat) (a0 : Int) (r : ByteArray) (w : World) (h : newsreelref17_two.f k a0 = some r) :
  Calls Tryd.prog 26 #[.int .i64 a0] w fun e w' => e = .returned (.string r) ∧ Drawn0 w w' := by
 have H : ((newsreelref01_Put.f k (wrap64 (Int.tdiv a0 10))).bind fun t347 => ((newsreelref01_Put.f k (Int.tmod a0 10)).bind fun t348 => (if t347.size + t348.size ≤ 9223372036854775807 then (some (t347 ++ t348)) else (none)))) = some r := h
 clear h
 replace H := Option.bind_eq_some_iff.mp H
 obtain ⟨t347, A20, H⟩ := H
 replace H : ((newsreelref01_Put.f k (Int.tmod a0 10)).bind fun t348 => (if t347.size + t348.size ≤ 9223372036854775807 then (some (t347 ++ t348)) else (none))) = some r := H
 have A2 := mkA A20
 clear A20
 replace H := Option.bind_eq_some_iff.mp H
 obtain ⟨t348, A30, H⟩ := H
 replace H : (if t347.size + t348.size ≤ 9223372036854775807 then (some (t347 ++ t348)) else (none)) = some r := H
 have A3 := mkA A30
 clear A30
 by_cases c4 : t347.size + t348.size ≤ 9223372036854775807
 ·rw [if_pos c4] at H
  have c4b0 := eq_true c4
  have c4b1 : decide (t347.size + t348.size ≤ 9223372036854775807) = true := decide_eq_true c4
  try have c4b2 : (9223372036854775807 < t347.size + t348.size) = False := eq_false (Nat.not_lt.2 c4)
  obtain rfl := Option.some.inj H
  as_aux_lemma =>
   go_enter Tryd.func26, Tryd.ntmps26
   go_wp2_with (first | ((with_reducible refine gate_callee (f := 27) rfl ?_); refine goesL_ (some 5) rfl rfl Tryd.func27 (by kernel_rfl) rfl #[.int .i64 (wrap64 (Int.tdiv a0 10))] rfl ca ?_; (with_reducible refine (newsreelref01_Put.calls k (wrap64 (Int.tdiv a0 10)) t347 _ A2.out).mono ?_); rintro e w' ⟨rfl, ⟨nd, rfl⟩⟩; refine ⟨_, rfl, ?_⟩) | ((with_reducible refine gate_callee (f := 27) rfl ?_); refine goesL_ (some 8) rfl rfl Tryd.func27 (by kernel_rfl) rfl #[.int .i64 (Int.tmod a0 10)] rfl ca ?_; (with_reducible refine (newsreelref01_Put.calls k (Int.tmod a0 10) t348 _ A3.out).mono ?_); rintro e w' ⟨rfl, ⟨nd, rfl⟩⟩; refine ⟨_, rfl, ?_⟩))
   go_ret
   exact ⟨by first | rfl | (simp; done) | (simp [*]; done), by repeat (first | exact Drawn0.refl _ | apply Drawn0.step)⟩
 ·rw [if_neg c4] at H
  exact absurd H (by simp)

end Go.Proofs.YtghdkpcpgpfgcaaDoor.XStb
