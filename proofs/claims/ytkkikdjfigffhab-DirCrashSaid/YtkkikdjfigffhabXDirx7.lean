-- By a program of this work (xprint.py) over the translation; Lean checks it.
import Derived.Test.YtkkikdjfigffhabXDirx0
import Derived.Test.YtkkikdjfigffhabXDirx6
namespace Go.Proofs.Ytkkikdjfigffhab.XDir
open Go.RowKit Go.Proofs.YtkkikdjfigffhabW.PrintWords Go.Proofs.YtkkikdjfigffhabW.PrintLast Go.Proofs.YtkkikdjfigffhabW.PrintMore
attribute [local go_sem] max2_int min2_int max_two min_two max_three min_three max_four min_four   -- for this text's walks alone
set_option linter.unusedVariables false
set_option linter.unusedSimpArgs false

/-! ### dir_place: function 127 -/
def dir_place.c (n : ByteArray) (x : S77) : Int := Lib.compareBytes x.f0.data.toList n.data.toList
/-- How many names precede, and whether the next one is it: of names that rise. -/
def dir_place.at (l0 : List S77) (n : ByteArray) : Nat := (l0.takeWhile fun x => decide (dir_place.c n x < 0)).length
def dir_place.is (l0 : List S77) (n : ByteArray) : Bool := match l0[dir_place.at l0 n]? with | some x => decide (dir_place.c n x = 0) | none => false
def dir_place.ok (l0 : List S77) (n : ByteArray) : Bool := decide (l0.length < 1000000) && decide (l0.Pairwise fun x y => dir_place.c n y < 0 → dir_place.c n x < 0)
def dir_place.f (l0 : List S77) (a1 : ByteArray) : Option (Int × Bool) := if dir_place.ok l0 a1 = true then some ((dir_place.at l0 a1 : Int), dir_place.is l0 a1) else none
theorem dir_place.at_eq {l0 : List S77} {n : ByteArray} {i : Nat} (hi : i ≤ l0.length) (h1 : ∀ t (h : t < l0.length), t < i → dir_place.c n l0[t] < 0) (h2 : ∀ (h : i < l0.length), ¬ dir_place.c n l0[i] < 0) : dir_place.at l0 n = i := by
 unfold dir_place.at
 induction l0 generalizing i with
 | nil =>
  have : i = 0 := by simpa using hi
  subst this
  rfl
 | cons a r ih =>
  cases i with
  | zero =>
   have h0 := h2 (by simp)
   rw [List.takeWhile_cons_of_neg (by simpa using h0)]
   rfl
  | succ i =>
   have h0 := h1 0 (by simp) (by omega)
   rw [List.takeWhile_cons_of_pos (by simpa using h0), List.length_cons]
   rw [ih (i := i) (by simpa using hi) (fun t h ht => h1 (t + 1) (by simpa using h) (by omega)) (fun h => h2 (by simpa using h))]
theorem dir_place.spec {l0 : List S77} {n : ByteArray} {p : Int} {t : Bool} (h : dir_place.f l0 n = some (p, t)) : ∃ i : Nat, p = (i : Int) ∧ i ≤ l0.length ∧ (t = true → i < l0.length) ∧ l0.length < 1000000 := by
 unfold dir_place.f at h
 by_cases hk : dir_place.ok l0 n = true
 ·rw [if_pos hk] at h
  injection h with h
  injection h with e1 e2
  refine ⟨dir_place.at l0 n, e1.symm, ?_, ?_, ?_⟩
  ·exact List.IsPrefix.length_le (List.takeWhile_prefix _)
  ·intro ht
   rw [← e2] at ht
   unfold dir_place.is at ht
   by_cases hlt : dir_place.at l0 n < l0.length
   ·exact hlt
   ·rw [List.getElem?_eq_none (by omega)] at ht
    cases ht
  ·unfold dir_place.ok at hk
   rw [Bool.and_eq_true] at hk
   exact of_decide_eq_true hk.1
 ·rw [if_neg hk] at h
  cases h
theorem dir_place.atN {w : World} {A : Option Addr} {l : List S77} (h : Kd.C k77 w A l.length l) (m : Nat) (hm : m < l.length) : ∃ ad, A = some ad ∧ w.cell? (ad.add (m * 2)) = some (.string (l[m]).f0) ∧ w.cell? ⟨(ad.add (m * 2)).block, (ad.add (m * 2)).off + 1, none⟩ = some (.int .i64 (l[m]).f1) := by
 obtain ⟨ad, e, h0, h1⟩ := at_T77 h (m : Int) (by omega) (by omega)
 have hget : rd_T77 l (m : Int) = l[m] := by
  unfold rd_T77
  rw [List.getD_eq_getElem?_getD, Int.toNat_natCast, List.getElem?_eq_getElem hm]
  rfl
 rw [hget, Int.toNat_natCast] at h0 h1
 exact ⟨ad, e, h0, h1⟩
set_option maxHeartbeats 8000000 in
set_option maxRecDepth 100000 in
theorem dir_place.search (A0 : Option Addr) (c0 : Nat) (l0 : List S77) (n : ByteArray) (w : World) (hr0 : Kd.C k77 w A0 l0.length l0) (hc0 : l0.length ≤ c0) (hk : dir_place.ok l0 n = true) :
  Calls Try.prog 149 #[.slice A0 l0.length c0, .string n, .func (.func 150) #[] #[]] w fun e w' => e = .returned (.tuple #[.int .i64 (dir_place.at l0 n : Int), .bool (dir_place.is l0 n)]) ∧ Below w.heap.size w w' := by
 unfold dir_place.ok at hk
 rw [Bool.and_eq_true] at hk
 have hlen : l0.length < 1000000 := of_decide_eq_true hk.1
 have hpw : l0.Pairwise fun x y => dir_place.c n y < 0 → dir_place.c n x < 0 := of_decide_eq_true hk.2
 have hmono : ∀ s t (hs : s < l0.length) (ht : t < l0.length), s ≤ t → dir_place.c n l0[t] < 0 → dir_place.c n l0[s] < 0 := by
  intro s t hs ht hst h
  rcases Nat.lt_or_eq_of_le hst with h1 | h1
  ·exact List.pairwise_iff_getElem.1 hpw s t hs ht h1 h
  ·subst h1
   exact h
 have hcmp : ∀ (W : World) (x : S77), Calls Try.prog 150 #[.agg #[.string x.f0, .int .i64 x.f1], .string n] W fun e w' => e = .returned (.int .i64 (dir_place.c n x)) ∧ Below W.heap.size W w' := fun W x => dir_place_1.calls x.f0 x.f1 n (dir_place.c n x) W rfl
 have HM := mkA hmono
 have HR := mkA hr0
 have HC := mkA hcmp
 have HB0 := mkA (Below.refl w.heap.size w)
 have hlz : (l0.length : Int) < 1000000 := by omega
 clear hk hpw hmono hr0 hcmp
 go_enter Try.func149, Try.ntmps149
 go_wp2
 go_loopg [9, 10] l0.length (fun kx s9 s10 wr => ∃ lo hi : Nat, s9 = .int .i64 lo ∧ s10 = .int .i64 hi ∧ lo ≤ hi ∧ hi ≤ l0.length ∧ hi - lo ≤ kx ∧ Aside0 (Below w.heap.size w wr) ∧
  Aside0 ((∀ t (h : t < l0.length), t < lo → dir_place.c n l0[t] < 0) ∧ (∀ t (h : t < l0.length), hi ≤ t → 0 ≤ dir_place.c n l0[t])))
 case atStart => exact ⟨0, l0.length, rfl, rfl, Nat.zero_le _, Nat.le_refl _, by omega, HB0, ⟨⟨fun t _ ht => absurd ht (Nat.not_lt_zero _), fun t h1 h2 => absurd h1 (by omega)⟩⟩⟩
 case round =>
  clear HB0
  obtain ⟨lo, hi, rfl, rfl, hlh, hin, hg, HB, HI⟩ := hrel
  by_cases hlt : lo < hi
  ·obtain ⟨ad, e, hx0, hx1⟩ := dir_place.atN HR.out ((lo + hi) / 2) (by omega)
   cases e
   replace hx0 := (cb HB.out hx0).trans hx0
   replace hx1 := (cb HB.out hx1).trans hx1
   have hml : (lo + hi) / 2 < l0.length := by omega
   generalize hy : l0[(lo + hi) / 2] = y at hx0 hx1
   have HY := mkA hy
   clear hy
   by_cases hyx : dir_place.c n y < 0
   ·go_wp2_with (go_at_call 150; refine (HC.out _ y).mono ?_; rintro e w' ⟨rfl, hb'⟩)
    have HB1 := mkA (below_step (below_y HB.out) hb')
    clear hb' HB
    have HI2 : Aside0 ((∀ t (h : t < l0.length), t < (lo + hi) / 2 + 1 → dir_place.c n l0[t] < 0) ∧ (∀ t (h : t < l0.length), hi ≤ t → 0 ≤ dir_place.c n l0[t])) := ⟨fun t h ht => HM.out t ((lo + hi) / 2) h hml (by omega) (by rw [HY.out]; exact hyx), HI.out.2⟩
    clear HI
    try simp only []
    go_wp2
    go_roundg (hi - ((lo + hi) / 2 + 1))
    case measure => omega
    case rel => exact ⟨(lo + hi) / 2 + 1, hi, by rw [show ((lo : Int) + (hi : Int)) / 2 + 1 = (((lo + hi) / 2 + 1 : Nat) : Int) by omega], rfl, by omega, hin, Nat.le_refl _, HB1, HI2⟩
   ·have hyd : decide (dir_place.c n y < 0) = false := decide_eq_false hyx
    have HN := mkA hyx
    clear hyx
    go_wp2_with (go_at_call 150; refine (HC.out _ y).mono ?_; rintro e w' ⟨rfl, hb'⟩)
    have HB1 := mkA (below_step (below_y HB.out) hb')
    clear hb' HB
    have HI2 : Aside0 ((∀ t (h : t < l0.length), t < lo → dir_place.c n l0[t] < 0) ∧ (∀ t (h : t < l0.length), (lo + hi) / 2 ≤ t → 0 ≤ dir_place.c n l0[t])) := ⟨HI.out.1, fun t h ht => Int.not_lt.1 fun hc => Int.not_lt.2 HN.out (by rw [← HY.out]; exact HM.out ((lo + hi) / 2) t hml h ht hc)⟩
    clear HI
    try simp only []
    go_wp2
    go_roundg ((lo + hi) / 2 - lo)
    case measure => omega
    case rel => exact ⟨lo, (lo + hi) / 2, rfl, by rw [show ((lo : Int) + (hi : Int)) / 2 = (((lo + hi) / 2 : Nat) : Int) by omega], by omega, by omega, Nat.le_refl _, HB1, HI2⟩
  ·obtain rfl : hi = lo := by omega
   have hat : dir_place.at l0 n = hi := dir_place.at_eq hin (fun t h ht => HI.out.1 t h ht) (fun h => Int.not_lt.2 (HI.out.2 hi h (Nat.le_refl _)))
   by_cases hn : hi < l0.length
   ·obtain ⟨ad, e, hx0, hx1⟩ := dir_place.atN HR.out hi hn
    cases e
    replace hx0 := (cb HB.out hx0).trans hx0
    replace hx1 := (cb HB.out hx1).trans hx1
    have his : dir_place.is l0 n = decide (dir_place.c n l0[hi] = 0) := by
     unfold dir_place.is
     rw [hat, List.getElem?_eq_getElem hn]
    have HIS := mkA his
    have HAT := mkA hat
    generalize hy : l0[hi] = y at hx0 hx1 HIS
    clear his hat hy
    go_wp2_with (go_at_call 150; refine (HC.out _ y).mono ?_; rintro e w' ⟨rfl, hb'⟩)
    have HB1 := mkA (below_step (below_y HB.out) hb')
    clear hb' HB
    try simp only []
    go_wp2
    all_goals (first | go_ret2 | go_ret)
    all_goals (refine ⟨?_, HB1.out⟩; rw [HAT.out, HIS.out])
    all_goals first | rfl | (simp; done)
   ·have his : dir_place.is l0 n = false := by
     unfold dir_place.is
     rw [hat, List.getElem?_eq_none (by omega)]
    have HIS := mkA his
    have HAT := mkA hat
    clear his hat
    go_wp2
    first | go_ret2 | go_ret
    refine ⟨?_, HB.out⟩
    rw [HAT.out, HIS.out]
    rfl
set_option maxHeartbeats 8000000 in
set_option maxRecDepth 100000 in
theorem dir_place.calls (A0 : Option Addr) (c0 : Nat) (l0 : List S77) (a1 : ByteArray) (r1 : Int) (r2 : Bool) (w : World) (hr0 : Kd.C k77 w A0 l0.length l0) (hc0 : l0.length ≤ c0) (h : dir_place.f l0 a1 = some (r1, r2)) :
  Calls Try.prog 127 #[.slice A0 l0.length c0, .string a1] w fun e w' => e = .returned (.tuple #[.int .i64 r1, .bool r2]) ∧ Below w.heap.size w w' := by
 unfold dir_place.f at h
 by_cases hk : dir_place.ok l0 a1 = true
 ·rw [if_pos hk] at h
  injection h with h
  injection h with e1 e2
  have HS := mkA (dir_place.search A0 c0 l0 a1 w hr0 hc0 hk)
  have E1 := mkA e1
  have E2 := mkA e2
  clear hr0 hk e1 e2
  go_enter Try.func127, Try.ntmps127
  go_wp2_with (go_at_call 149; refine HS.out.mono ?_; rintro e w' ⟨rfl, hb⟩; have HB := mkA hb; clear hb; rw [E1.out, E2.out])
  first | go_ret2 | ((try simp only [Exit.inBlock, Exit.then]); refine bodyPost_ret (results_two rfl _ _ _) rfl ?_)
  exact ⟨rfl, HB.out⟩
 ·rw [if_neg hk] at h
  cases h

end Go.Proofs.Ytkkikdjfigffhab.XDir
