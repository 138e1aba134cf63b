import Derived.Test.YtghdkpcpgpfgcaaDoorXStaBase
import Derived.Test.YtghdkpcpgpfgcaaDoorXStaBase2
namespace Go.Proofs.YtghdkpcpgpfgcaaDoor.XSta
open Go.RowKit Go.Proofs.YtghdkpcpgpfgcaaDoorW.PrintWords Go.Proofs.YtghdkpcpgpfgcaaDoorW.PrintLast Go.Proofs.YtghdkpcpgpfgcaaDoorW.PrintMore
theorem bindAt {α β : Type} {x : Option α} {a : α} {f : α → Option β} {r : Option β} (h : x = some a) (hf : f a = r) : x.bind f = r := by rw [h]; exact hf
theorem iteLe {α : Type} {n m : Nat} {x y r : Option α} (h : Nat.ble n m = true) (hx : x = r) : (if n ≤ m then x else y) = r := by rw [if_pos (Nat.le_of_ble_eq_true h)]; exact hx
/-- A stamp's bytes. -/
def stampS (i d b y h m s : Nat) : ByteArray := ⟨#[wd0 i, wd1 i, wd2 i, 44, 32, dg (d / 10), dg (d % 10), 32, mo0 b, mo1 b, mo2 b, 32, dg (y / 1000), dg (y / 100 % 10), dg (y / 10 % 10), dg (y % 10), 32, dg (h / 10), dg (h % 10), 58, dg (m / 10), dg (m % 10), 58, dg (s / 10), dg (s % 10), 32, 71, 77, 84]⟩
theorem put_fin (k : Nat) (x4 x5 d b a : Nat) (hd : d < 100) (hb : b < 12) (ha : a < 230) (h5 : x5 < 86400) (_h4 : x4 < 1000000) (hdd : (d : Int) ≤ stamp_Days.days ((1970 + a : Nat) : Int) ((1 + b : Nat) : Int)) :
    stamp_Put.l0 (k + 1) (x4 : Int) (x5 : Int) (d : Int) ((1 + b : Nat) : Int) ((1970 + a : Nat) : Int) = some (stampS (x4 % 7) d b (1970 + a) (x5 / 3600) (x5 / 60 % 60) (x5 % 60), 0) := by
  have e1 : Int.tmod (x4 : Int) 7 = ((x4 % 7 : Nat) : Int) := rfl
  have e2 : wrap64 (((1 + b : Nat) : Int) - 1) = (b : Int) := by rw [w64 (by omega) (by omega)]; omega
  have e3 : wrap64 (Int.tdiv (x5 : Int) 3600) = ((x5 / 3600 : Nat) : Int) := by
    have : Int.tdiv (x5 : Int) 3600 = ((x5 / 3600 : Nat) : Int) := rfl
    rw [this, w64 (by omega) (by omega)]
  have e4 : Int.tmod (wrap64 (Int.tdiv (x5 : Int) 60)) 60 = ((x5 / 60 % 60 : Nat) : Int) := by
    have : Int.tdiv (x5 : Int) 60 = ((x5 / 60 : Nat) : Int) := rfl
    rw [this, w64 (by omega) (by omega)]
    rfl
  have e5 : Int.tmod (x5 : Int) 60 = ((x5 % 60 : Nat) : Int) := rfl
  have hy := four_put a ha
  rw [stamp_Put.l0, days_f, Option.bind_some, if_neg (by omega), e1, e2, e3, e4, e5]
  clear e1 e2 e3 e4 e5 hdd
  generalize ((1970 + a : Nat) : Int) = ya at *
  generalize 1970 + a = yn at *
  refine bindAt (wd_put (x4 % 7) (by omega)) ?_
  refine iteLe rfl ?_
  refine bindAt (two_put d hd) ?_
  refine iteLe rfl ?_
  refine iteLe rfl ?_
  refine bindAt (mo_put b hb) ?_
  refine iteLe rfl ?_
  refine iteLe rfl ?_
  refine bindAt hy ?_
  refine iteLe rfl ?_
  refine iteLe rfl ?_
  refine bindAt (two_put (x5 / 3600) (by omega)) ?_
  refine iteLe rfl ?_
  refine iteLe rfl ?_
  refine bindAt (two_put (x5 / 60 % 60) (by omega)) ?_
  refine iteLe rfl ?_
  refine iteLe rfl ?_
  refine bindAt (two_put (x5 % 60) (by omega)) ?_
  refine iteLe rfl ?_
  refine iteLe rfl ?_
  rfl
theorem put_loop (D x4 x5 : Nat) (hD : D < 84006) (h5 : x5 < 86400) (h4 : x4 < 1000000) : ∀ (r a b d : Nat), a < 230 → b < 12 → 1 ≤ d → yrs a + mon ((1970 + a : Nat) : Int) b + (d : Int) - 1 = (D : Int) → 2760 ≤ r + (12 * a + b) →
    ∃ a' b' d' : Nat, a' < 230 ∧ b' < 12 ∧ 1 ≤ d' ∧ (d' : Int) ≤ stamp_Days.days ((1970 + a' : Nat) : Int) ((1 + b' : Nat) : Int) ∧ yrs a' + mon ((1970 + a' : Nat) : Int) b' + (d' : Int) - 1 = (D : Int) ∧
      ∀ k, r ≤ k → stamp_Put.l0 (k + 1) (x4 : Int) (x5 : Int) (d : Int) ((1 + b : Nat) : Int) ((1970 + a : Nat) : Int) = some (stampS (x4 % 7) d' b' (1970 + a') (x5 / 3600) (x5 / 60 % 60) (x5 % 60), 0) := by
  intro r
  induction r with
  | zero =>
    intro a b d ha hb hd he hr
    clear he
    omega
  | succ r ih =>
    intro a b d ha hb hd he hr
    have hbd := days_bd a ha b hb
    have hm := mon_bd a ha b (Nat.le_of_lt hb)
    have hy := yrs_bd a
    have hs := mon_succ ((1970 + a : Nat) : Int) b
    have IH := Aside0.mk ih
    have HE := Aside0.mk he
    have HF := Aside0.mk (fun (hd : d < 100) hle k => put_fin k x4 x5 d b a hd hb ha h5 h4 hle)
    have HA := Aside0.mk (days_f ((1970 + a : Nat) : Int) ((1 + b : Nat) : Int))
    have H12 := Aside0.mk (mon_12 a ha)
    clear ih
    obtain ⟨Z, hZ⟩ : ∃ Z, Z = stamp_Days.days ((1970 + a : Nat) : Int) ((1 + b : Nat) : Int) := ⟨_, rfl⟩
    obtain ⟨M, hM⟩ : ∃ M, M = mon ((1970 + a : Nat) : Int) b := ⟨_, rfl⟩
    obtain ⟨Y, hY⟩ : ∃ Y, Y = yrs a := ⟨_, rfl⟩
    rw [← hZ] at hbd hs
    rw [← hM] at hs hm he
    rw [← hY] at hy he
    have HZ := Aside0.mk hZ
    have HM := Aside0.mk hM
    have HY := Aside0.mk hY
    have HS := Aside0.mk hs
    clear hZ hM hY hs
    by_cases hle : (d : Int) ≤ Z
    · exact ⟨a, b, d, ha, hb, hd, by rw [← HZ.out]; exact hle, HE.out, fun k _ => HF.out (by omega) (by rw [← HZ.out]; exact hle) k⟩
    · obtain ⟨z, rfl⟩ : ∃ z : Nat, Z = (z : Int) := ⟨Z.toNat, by omega⟩
      have hzd : z < d := by omega
      have HW : Aside0 (wrap64 ((d : Int) - (z : Int)) = ((d - z : Nat) : Int)) := ⟨by rw [w64 (by omega) (by omega)]; omega⟩
      have hgt : (d : Int) > (z : Int) := by omega
      have hk : 1 ≤ d - z := by omega
      have HY2 : Aside0 (wrap64 (((1970 + a : Nat) : Int) + 1) = ((1970 + (a + 1) : Nat) : Int)) := ⟨by rw [w64 (by omega) (by omega)]; omega⟩
      have HM2 : Aside0 (wrap64 (((1 + b : Nat) : Int) + 1) = ((1 + (b + 1) : Nat) : Int)) := ⟨by rw [w64 (by omega) (by omega)]; omega⟩
      by_cases hb11 : b = 11
      · subst hb11
        have hr1 : 2760 ≤ r + (12 * (a + 1) + 0) := by omega
        have hyr : Y + M + (z : Int) + ((d - z : Nat) : Int) - 1 = (D : Int) := by omega
        have ey : yrs (a + 1) = Y + M + (z : Int) := by
          have h1 := H12.out
          have h2 : mon ((1970 + a : Nat) : Int) 12 = M + (z : Int) := HS.out
          rw [yrs, ← HY.out, Int.add_assoc, ← h1, h2, Int.add_assoc]
        have EY := Aside0.mk ey
        clear ey
        have ha1 : a + 1 < 230 := by
          rcases Nat.lt_or_ge (a + 1) 230 with h | h
          · exact h
          · have hae : a + 1 = 230 := by omega
            have e2 := EY.out
            rw [hae, yrs_last] at e2
            omega
        have em : yrs (a + 1) + mon ((1970 + (a + 1) : Nat) : Int) 0 + ((d - z : Nat) : Int) - 1 = (D : Int) := by
          rw [EY.out, show mon ((1970 + (a + 1) : Nat) : Int) 0 = 0 from rfl, Int.add_zero]
          exact hyr
        obtain ⟨a', b', d', q1, q2, q3, q4, q5, q6⟩ := IH.out (a + 1) 0 (d - z) ha1 (by decide) hk em hr1
        refine ⟨a', b', d', q1, q2, q3, q4, q5, fun k hk => ?_⟩
        clear q4 q5 em
        obtain ⟨k, rfl⟩ : ∃ j, k = j + 1 := ⟨k - 1, by omega⟩
        have w1 : ((1 + (11 + 1) : Nat) : Int) = 13 := rfl
        have hk2 : r ≤ k := by omega
        rw [stamp_Put.l0, HA.out, ← HZ.out, Option.bind_some, if_pos hgt, Option.bind_some, HM2.out, w1, if_pos (by decide), HY2.out, HW.out]
        exact q6 k hk2
      · have hr1 : 2760 ≤ r + (12 * a + (b + 1)) := by omega
        have hb1 : b + 1 < 12 := by omega
        have em : yrs a + mon ((1970 + a : Nat) : Int) (b + 1) + ((d - z : Nat) : Int) - 1 = (D : Int) := by
          rw [HS.out, ← HY.out]
          omega
        have hn12 : ¬ (((1 + (b + 1) : Nat) : Int) > 12) := by omega
        obtain ⟨a', b', d', q1, q2, q3, q4, q5, q6⟩ := IH.out a (b + 1) (d - z) ha hb1 hk em hr1
        refine ⟨a', b', d', q1, q2, q3, q4, q5, fun k hk => ?_⟩
        clear q4 q5 em
        obtain ⟨k, rfl⟩ : ∃ j, k = j + 1 := ⟨k - 1, by omega⟩
        have hk2 : r ≤ k := by omega
        rw [stamp_Put.l0, HA.out, ← HZ.out, Option.bind_some, if_pos hgt, Option.bind_some, HM2.out, if_neg hn12, HW.out]
        exact q6 k hk2
theorem put_eq (n : Nat) (hn : n < 7258118400) : ∃ a b d : Nat, a < 230 ∧ b < 12 ∧ 1 ≤ d ∧ (d : Int) ≤ stamp_Days.days ((1970 + a : Nat) : Int) ((1 + b : Nat) : Int) ∧ yrs a + mon ((1970 + a : Nat) : Int) b + (d : Int) - 1 = ((n / 86400 : Nat) : Int) ∧
    ∀ k, 3000 ≤ k → stamp_Put.f k (n : Int) = some (stampS (n / 86400 % 7) d b (1970 + a) (n % 86400 / 3600) (n % 86400 / 60 % 60) (n % 86400 % 60), 0) := by
  have e1 : Int.tdiv (n : Int) 86400 = ((n / 86400 : Nat) : Int) := rfl
  have e2 : Int.tmod (n : Int) 86400 = ((n % 86400 : Nat) : Int) := rfl
  have w1 : wrap64 ((n / 86400 : Nat) : Int) = ((n / 86400 : Nat) : Int) := w64 (by omega) (by omega)
  have w2 : wrap64 (1 + ((n / 86400 : Nat) : Int)) = ((n / 86400 + 1 : Nat) : Int) := by rw [w64 (by omega) (by omega)]; omega
  have dd : decide ((n : Int) ≥ 7258118400) = false := decide_eq_false (by omega)
  have nn : ¬ ((n : Int) < 0) := by omega
  have w3 : wrap64 (86400 * 84006) = 7258118400 := by rw [w64 (by decide) (by decide)]; rfl
  obtain ⟨a, b, d, q1, q2, q3, q4, q5, q6⟩ := put_loop (n / 86400) (n / 86400) (n % 86400) (by omega) (by omega) (by omega) 2760 0 0 (n / 86400 + 1) (by omega) (by omega) (by omega) (by
    have e1 : mon ((1970 + 0 : Nat) : Int) 0 = 0 := rfl
    have e2 : yrs 0 = 0 := rfl
    rw [e1, e2]; omega) (by omega)
  refine ⟨a, b, d, q1, q2, q3, q4, q5, fun k hk => ?_⟩
  clear q4 q5
  have hk2 : 400 ≤ k - 2 + 2 := by clear w1 w2 w3 dd e1 e2; omega
  have hk3 : 2760 ≤ k - 2 := by clear w1 w2 w3 dd e1 e2; omega
  obtain ⟨k, rfl⟩ : ∃ j, k = j + 2 := ⟨k - 2, by clear w1 w2 w3 dd e1 e2; omega⟩
  rw [stamp_Put.f, if_neg nn, before_2200 (k + 2) hk2, Option.bind_some, w3, dd, stamp_Put.j0, if_neg (by decide), e1, e2, w1, w2]
  exact q6 k (by clear w1 w2 w3 dd e1 e2; omega)
end Go.Proofs.YtghdkpcpgpfgcaaDoor.XSta
