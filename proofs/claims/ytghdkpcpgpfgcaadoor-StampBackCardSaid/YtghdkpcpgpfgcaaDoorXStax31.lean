-- By a program of this work (xprint.py) over the translation; Lean checks it.
import Derived.Test.YtghdkpcpgpfgcaaDoorXStax0
namespace Go.Proofs.YtghdkpcpgpfgcaaDoor.XSta
open Go.RowKit Go.Proofs.YtghdkpcpgpfgcaaDoorW.PrintWords Go.Proofs.YtghdkpcpgpfgcaaDoorW.PrintLast Go.Proofs.YtghdkpcpgpfgcaaDoorW.PrintMore
attribute [local go_sem] max2_int min2_int max_two min_two max_three min_three max_four min_four   -- for this text's walks alone
set_option linter.unusedVariables false
set_option linter.unusedSimpArgs false

/-! ### num_digits: function 45 -/
def num_digits.dg : Nat → Nat → List UInt8
  | 0, _ => []
  | k + 1, n => if n < 10 then [UInt8.ofNat (48 + n)] else num_digits.dg k (n / 10) ++ [UInt8.ofNat (48 + n % 10)]
def num_digits.f (a0 : Int) : Option ByteArray := if 0 ≤ a0 ∧ a0 < 18446744073709551616 then some ⟨(num_digits.dg 20 a0.toNat).toArray⟩ else none
theorem num_digits.back {ops : Array Oper} {rest : List Oper} {o : Oper} {a : Act} {Q : Exit → Act → World → Prop} {W : World} (hgd : o.guard = none) {g off n c : Nat} (l : List UInt8)
    (ho : ∃ x, o.op = .convert 33 9 x ∧ a.eval x = .slice (some ⟨g, off, none⟩) n c) (hn : n = l.length)
    (hl : ∀ j (h : j < l.length), W.cell? ⟨g, off + j, none⟩ = some (.int .u8 (l[j].toNat : Int)))
    (h : wpList Tryd.prog ops Q rest (a.put o.dst (.string ⟨l.toArray⟩)) W) : wpList Tryd.prog ops Q (o :: rest) a W := by
  obtain ⟨x, ho, hx⟩ := ho
  subst hn
  have hrun := run_convert_bytes_back (P := Tryd.prog) W 33 9 5 ⟨g, off, none⟩ c l Tryd.underlying33 Tryd.underlying5 Tryd.underlying9 (fun j hj => by
    have h := hl j hj
    unfold Addr.add
    split
    · rename_i e
      subst e
      exact h
    · exact h)
  have hex : (execOp a.eval o).run Tryd.prog W = .ok (.value (.string ⟨l.toArray⟩)) W := by
    unfold execOp
    simp only [ho, hx, Sem.run_bind, Sem.run_pure, hrun, Result.andThen_ok]
  exact Kd.event_run hgd hex h
/-- The digits that lie from a place on. -/
def num_digits.lies (W : World) (g k : Nat) (l : List UInt8) : Prop := ∃ cs : Array Value, W.heap[g]? = some (.cells cs 96 (0, 0)) ∧ cs.size = 20 ∧ ∀ j c, l[j]? = some c → cs[k + j]? = some (.int .u8 (c.toNat : Int))
theorem num_digits.cell {W : World} {g k : Nat} {l : List UInt8} (h : num_digits.lies W g k l) (i : Nat) (hi : i < 20) : ∃ v, W.cell? ⟨g, i, none⟩ = some v ∧ W.frozen? ⟨g, i, none⟩ = false := by
  obtain ⟨cs, h1, h2, h3⟩ := h
  exact ⟨_, (blk_cell h1 i).trans (Array.getElem?_eq_getElem (by omega)), blk_frozen h1 i⟩
theorem num_digits.set {W : World} {g k : Nat} {l : List UInt8} (h : num_digits.lies W g (k + 1) l) (hk : k < 20) (c : UInt8) : num_digits.lies (W.setCell ⟨g, k, none⟩ (.int .u8 (c.toNat : Int))) g k (c :: l) := by
  obtain ⟨cs, h1, h2, h3⟩ := h
  refine ⟨_, blk_set h1 k _, by rw [Array.size_setIfInBounds]; exact h2, fun j u hj => ?_⟩
  cases j with
  | zero =>
    obtain rfl : c = u := Option.some.inj hj
    rw [Nat.add_zero, Array.getElem?_setIfInBounds_self_of_lt (by omega)]
  | succ j =>
    rw [Array.getElem?_setIfInBounds_ne (by omega), ← h3 j u hj]
    congr 1
    omega
theorem num_digits.keep {W W1 : World} {g k : Nat} {l : List UInt8} (h : num_digits.lies W g k l) (hb : Below W.heap.size W W1) : num_digits.lies W1 g k l := by
  obtain ⟨cs, h1, h2, h3⟩ := h
  exact ⟨cs, blk_below h1 hb, h2, h3⟩
theorem num_digits.drew {W : World} {g k : Nat} {l : List UInt8} (h : num_digits.lies W g k l) : num_digits.lies W.drew g k l := h
theorem num_digits.wr (n : Int) (h : -9223372036854775808 ≤ n ∧ n ≤ 9223372036854775807) : wrap64 n = n := by unfold wrap64; omega
set_option maxHeartbeats 1000000 in
set_option maxRecDepth 100000 in
theorem num_digits.calls (a0 : Int) (r : ByteArray) (w : World) (h : num_digits.f a0 = some r) :
    Calls Tryd.prog 45 #[.int .u64 a0] w fun e w' => e = .returned (.string r) ∧ Below w.heap.size w w' := by
  unfold num_digits.f at h
  split at h
  rotate_left
  · cases h
  rename_i hs
  obtain rfl := Option.some.inj h
  obtain ⟨n, rfl⟩ : ∃ n : Nat, a0 = n := ⟨a0.toNat, by omega⟩
  rw [Int.toNat_natCast]
  have HS := Aside0.mk (show n < 18446744073709551616 by omega)
  clear h hs
  have HB := Aside0.mk (Below.refl w.heap.size w)
  go_enter Tryd.func45, Tryd.ntmps45
  go_wp2_with (first | ((with_reducible refine gate_dst (N := 3) rfl ?_); refine box_event ?hg (N := 3) ?hd (cs := #[.int .u8 0, .int .u8 0, .int .u8 0, .int .u8 0, .int .u8 0, .int .u8 0, .int .u8 0, .int .u8 0, .int .u8 0, .int .u8 0, .int .u8 0, .int .u8 0, .int .u8 0, .int .u8 0, .int .u8 0, .int .u8 0, .int .u8 0, .int .u8 0, .int .u8 0, .int .u8 0]) (t := 96) ?hr ?_; (case hd => rfl); (case hg => rfl); (case hr => first | (go_simp; done) | (go_simp; rfl)); intro gb hg w1 hbox hb; have n0_ := Aside0.mk (below_step (below_y HB.out) hb); have n1_ := Aside0.mk (show num_digits.lies w1 gb 20 [] from ⟨_, hbox, rfl, fun j c hj => by simp at hj⟩); have n2_ := Aside0.mk ((by rw [hg]; exact (below_size (below_y HB.out)) : w.heap.size ≤ gb)); clear HB; have HB := n0_; have HL := n1_; have GE := n2_; clear n0_ n1_ n2_; clear hb hbox hg))
  go_loopw [0, 4] (fun v0 v4 wr => ∃ (u k : Nat) (l : List UInt8), v0 = .int .u64 u ∧ v4 = .int .i64 ((k + 1 : Nat) : Int) ∧ Aside0 (k < 20 ∧ u < 10 ^ (k + 1) ∧ u < 18446744073709551616 ∧ l.length + k = 19 ∧ num_digits.dg (k + 1) u ++ l = num_digits.dg 20 n) ∧ Aside0 (num_digits.lies wr gb (k + 1) l) ∧ Aside0 (Below w.heap.size w wr)) (fun _ v4 _ => (intOf v4).toNat)
  case atStart => exact ⟨n, 19, [], rfl, rfl, ⟨by omega, by have := HS.out; omega, HS.out, rfl, by rw [List.append_nil]⟩, HL, HB⟩
  case round =>
    clear HL HB
    obtain ⟨u, k, l, rfl, rfl, HP, HL, HB⟩ := hrel
    have hw : wrap64 (((k + 1 : Nat) : Int) - 1) = (k : Int) := by rw [num_digits.wr _ ⟨by omega, by have := HP.out.1; omega⟩]; omega
    have hk := HP.out.1
    obtain ⟨v, hx, hz⟩ := num_digits.cell HL.out k hk
    have hk1 : (k < 20) = True := eq_true hk
    have hk2 : ((k : Int) < 20) = True := eq_true (by omega)
    have hk3 : (k ≤ 20) = True := eq_true (by omega)
    have hk4 : ((k : Int) ≤ 20) = True := eq_true (by omega)
    have hk5 : ((20 : Nat) = k) = False := eq_false (by omega)
    obtain ⟨ch, hce⟩ : ∃ c, c = UInt8.ofNat (48 + u % 10) := ⟨_, rfl⟩
    have hch : (48 + (u : Int) % 10) = ((ch.toNat : Nat) : Int) := by
      rw [hce, UInt8.toNat_ofNat']
      have : u % 10 < 10 := Nat.mod_lt _ (by omega)
      omega
    have HCE := Aside0.mk hce
    clear hce
    have hw2 : wrap64 (k : Int) = (k : Int) := num_digits.wr _ ⟨by omega, by omega⟩
    have HCH := Aside0.mk hch
    clear hch
    have hq : IntKind.u64.wrap ((u : Int) / 10) = ((u / 10 : Nat) : Int) := by
      have := HP.out.2.2.1
      show ((u : Int) / 10) % 18446744073709551616 = _
      omega
    have HQ := Aside0.mk hq
    by_cases hu : u < 10
    · have h0 : u / 10 = 0 := by omega
      have e0 : (IntKind.u64.wrap ((u : Int) / 10) == 0) = true := by rw [hq, h0]; rfl
      clear hq
      have HU := Aside0.mk hu
      clear hu h0 hk
      have hal : Tryd.prog.arrayLen 96 = 20 := by kernel_rfl
      go_wp2_with (first | ((with_reducible refine gate_dst (N := 19) rfl ?_); refine num_digits.back (l := ch :: l) (g := gb) (off := k) (n := 20 - k) (c := 20 - k) ?hg ?ho ?hn ?hl ?_; (case hg => rfl); (case ho => refine ⟨_, rfl, ?_⟩; first | (with_reducible rfl) | (go_simp; done) | rfl | (go_simp; rfl)); (case hn => have := HP.out.2.2.2.1; rw [List.length_cons]; omega); (case hl => intro j hj; rw [HCH.out]; obtain ⟨cs, b1, b2, b3⟩ := num_digits.set HL.out HP.out.1 (ch); exact (blk_cell b1 (k + j)).trans (b3 j _ (List.getElem?_eq_getElem hj)))))
      go_ret
      exact ⟨by rw [← HP.out.2.2.2.2, num_digits.dg, if_pos HU.out, HCE.out, Nat.mod_eq_of_lt HU.out]; rfl, below_set HB.out GE.out⟩
    · have e0 : (IntKind.u64.wrap ((u : Int) / 10) == 0) = false := by rw [hq]; exact beq_eq_false_iff_ne.mpr (by omega)
      clear hq
      have HU := Aside0.mk hu
      clear hu hk
      go_wp2
      rw [HQ.out, HCH.out]
      try rw [hw2]
      have hk0 : k ≠ 0 := by
        intro e
        subst e
        have := HP.out.2.1
        have := HU.out
        omega
      obtain ⟨m, rfl⟩ : ∃ m, k = m + 1 := ⟨k - 1, by omega⟩
      refine ⟨⟨u / 10, m, ch :: l, rfl, rfl, ⟨?_⟩, ⟨num_digits.set HL.out HP.out.1 _⟩, ⟨below_set HB.out GE.out⟩⟩, ?_⟩
      · obtain ⟨p1, p2, p3, p4, p5⟩ := HP.out
        refine ⟨by omega, ?_, by omega, by rw [List.length_cons]; omega, ?_⟩
        · rw [Nat.pow_succ] at p2
          exact Nat.div_lt_of_lt_mul (by rw [Nat.mul_comm]; exact p2)
        · rw [← p5]
          conv => rhs; rw [num_digits.dg, if_neg HU.out, ← HCE.out]
          rw [List.append_assoc]
          rfl
      · show (((m + 1 : Nat) : Int)).toNat < (((m + 1 + 1 : Nat) : Int)).toNat
        omega

end Go.Proofs.YtghdkpcpgpfgcaaDoor.XSta
