import Derived.Test.YtghdkpcpgpfgcaaDoorXStaTellStampBack
namespace Go.Proofs.YtghdkpcpgpfgcaaDoor.XSta
open Go.RowKit Go.Proofs.YtghdkpcpgpfgcaaDoorW.PrintWords Go.Proofs.YtghdkpcpgpfgcaaDoorW.PrintLast Go.Proofs.YtghdkpcpgpfgcaaDoorW.PrintMore
theorem up {α : Type} {F : Nat → Option α} (hm : ∀ k, LeO (F k) (F (k + 1))) {K : Nat} {r : α} (h : F K = some r) : ∀ k, K ≤ k → F k = some r := by
  intro k hk
  obtain ⟨j, rfl⟩ := Nat.exists_eq_add_of_le hk
  induction j with
  | zero => exact h
  | succ j ih => exact hm _ _ (ih (by omega))
theorem w64 {n : Int} (h1 : -9223372036854775808 ≤ n) (h2 : n ≤ 9223372036854775807) : wrap64 n = n := by unfold wrap64; omega
/-- Days in years from 1970 on. -/
def yrs : Nat → Int
  | 0 => 0
  | n + 1 => yrs n + 365 + (if stamp_Days.leap ((1970 + n : Nat) : Int) = true then 1 else 0)
/-- Days in months. -/
def mon (y : Int) : Nat → Int
  | 0 => 0
  | j + 1 => mon y j + stamp_Days.days y ((1 + j : Nat) : Int)
theorem yrs_bd : ∀ n : Nat, 365 * (n : Int) ≤ yrs n ∧ yrs n ≤ 366 * (n : Int)
  | 0 => ⟨by decide, by decide⟩
  | n + 1 => by
    obtain ⟨h1, h2⟩ := yrs_bd n
    unfold yrs
    split <;> omega
theorem days_ne (a : Nat) (ha : a < 230) (b : Nat) (hb : b < 12) : stamp_Days.days ((1970 + a : Nat) : Int) ((1 + b : Nat) : Int) = if b = 1 ∧ stamp_Days.leap ((1970 + a : Nat) : Int) = true then 29 else stamp_Days.tab.getD b 0 := by
  unfold stamp_Days.days
  rw [if_neg (by omega), show (((1 + b : Nat) : Int) - 1).toNat = b by omega]
  by_cases h : b = 1
  · subst h
    by_cases hl : stamp_Days.leap ((1970 + a : Nat) : Int) = true
    · rw [if_pos ⟨rfl, hl⟩, if_pos ⟨rfl, hl⟩]
    · rw [if_neg (fun h' => hl h'.2), if_neg (fun h' => hl h'.2)]
  · rw [if_neg (fun h' => h (by omega)), if_neg (fun h' => h h'.1)]
theorem tab_bd : ∀ b : Nat, b < 12 → 28 ≤ stamp_Days.tab.getD b 0 ∧ stamp_Days.tab.getD b 0 ≤ 31 := by decide +kernel
theorem days_bd (a : Nat) (ha : a < 230) (b : Nat) (hb : b < 12) : 28 ≤ stamp_Days.days ((1970 + a : Nat) : Int) ((1 + b : Nat) : Int) ∧ stamp_Days.days ((1970 + a : Nat) : Int) ((1 + b : Nat) : Int) ≤ 31 := by
  rw [days_ne a ha b hb]
  have := tab_bd b hb
  split <;> omega
theorem mon_12 (a : Nat) (ha : a < 230) : mon ((1970 + a : Nat) : Int) 12 = 365 + (if stamp_Days.leap ((1970 + a : Nat) : Int) = true then 1 else 0) := by
  simp only [mon]
  rw [days_ne a ha 0 (by omega), days_ne a ha 1 (by omega), days_ne a ha 2 (by omega), days_ne a ha 3 (by omega), days_ne a ha 4 (by omega), days_ne a ha 5 (by omega), days_ne a ha 6 (by omega), days_ne a ha 7 (by omega), days_ne a ha 8 (by omega), days_ne a ha 9 (by omega), days_ne a ha 10 (by omega), days_ne a ha 11 (by omega)]
  by_cases hl : stamp_Days.leap ((1970 + a : Nat) : Int) = true
  · simp only [hl, stamp_Days.tab]; decide
  · simp only [hl, stamp_Days.tab]; decide
theorem mon_succ (y : Int) (b : Nat) : mon y (b + 1) = mon y b + stamp_Days.days y ((1 + b : Nat) : Int) := rfl
theorem mon_bd (a : Nat) (ha : a < 230) (b : Nat) (hb : b ≤ 12) : 0 ≤ mon ((1970 + a : Nat) : Int) b ∧ mon ((1970 + a : Nat) : Int) b ≤ 31 * (b : Int) := by
  induction b with
  | zero =>
    have h : mon ((1970 + a : Nat) : Int) 0 = 0 := rfl
    rw [h]
    omega
  | succ b ih =>
    obtain ⟨h1, h2⟩ := ih (by omega)
    obtain ⟨h3, h4⟩ := days_bd a ha b (by omega)
    rw [mon_succ]
    generalize mon ((1970 + a : Nat) : Int) b = x at *
    generalize stamp_Days.days ((1970 + a : Nat) : Int) ((1 + b : Nat) : Int) = z at *
    omega
theorem days_f (y m : Int) : stamp_Days.f y m = some (stamp_Days.days y m) := rfl
theorem before_l1 (y : Int) (hd : ∀ c : Nat, c < 12 → 28 ≤ stamp_Days.days y ((1 + c : Nat) : Int) ∧ stamp_Days.days y ((1 + c : Nat) : Int) ≤ 31) (hmb : ∀ c : Nat, c ≤ 12 → 0 ≤ mon y c ∧ mon y c ≤ 31 * (c : Int))
    (b : Nat) (hb : b < 12) (Y : Int) (hY : 0 ≤ Y ∧ Y ≤ 1000000) (j : Nat) : ∀ k, j ≤ b →
    stamp_before.l1 (k + j + 1) y ((1 + b : Nat) : Int) (Y + mon y (b - j)) ((1 + (b - j) : Nat) : Int) = some (Y + mon y b) := by
  induction j with
  | zero =>
    intro k _
    rw [Nat.add_zero, Nat.sub_zero, stamp_before.l1, if_neg (by omega)]
  | succ j ih =>
    intro k hj
    have h := ih k (by omega)
    obtain ⟨c, hc⟩ : ∃ c, c = b - (j + 1) := ⟨_, rfl⟩
    rw [show b - j = c + 1 by omega, mon_succ] at h
    rw [← hc]
    have hm := hmb c (by omega)
    have hd := hd c (by omega)
    rw [show k + (j + 1) + 1 = (k + j + 1) + 1 by omega, stamp_before.l1, if_pos (by omega), days_f, Option.bind_some]
    rw [w64 (by omega) (by omega), w64 (by omega) (by omega), Int.add_assoc, ← h]
    congr 1
theorem leap_f2 (y : Int) : stamp_leap.f y = some (stamp_Days.leap y) := stamp_Days.leap_f y
theorem before_l0 (a : Nat) (ha : a ≤ 230) (x0 x1 : Int) (hx : x0 = 1970 + (a : Int)) (j : Nat) : ∀ k, j ≤ a →
    stamp_before.l0 (k + j + 1) x0 x1 (yrs (a - j)) ((1970 + (a - j) : Nat) : Int) = stamp_before.l1 k x0 x1 (yrs a) 1 := by
  induction j with
  | zero =>
    intro k _
    rw [Nat.add_zero, Nat.sub_zero, stamp_before.l0, if_neg (by omega)]
  | succ j ih =>
    intro k hj
    have h := ih k (by omega)
    obtain ⟨c, hc⟩ : ∃ c, c = a - (j + 1) := ⟨_, rfl⟩
    rw [show a - j = c + 1 by omega, yrs] at h
    rw [← hc]
    have hm := yrs_bd c
    rw [show k + (j + 1) + 1 = (k + j + 1) + 1 by omega, stamp_before.l0, if_pos (by omega), leap_f2, Option.bind_some, ← h]
    generalize hz : ((1970 + c : Nat) : Int) = z
    have hz2 : ((1970 + (c + 1) : Nat) : Int) = z + 1 := by omega
    rw [hz2]
    by_cases hl : stamp_Days.leap z = true
    · rw [if_pos hl, if_pos hl, w64 (n := yrs c + 365) (by omega) (by omega), w64 (by omega) (by omega), w64 (by omega) (by omega)]
    · rw [if_neg hl, if_neg hl, w64 (n := yrs c + 365) (by omega) (by omega), w64 (by omega) (by omega), Int.add_zero]
theorem before_eq (a : Nat) (ha : a < 230) (b : Nat) (hb : b < 12) : ∀ k, 300 ≤ k → stamp_before.f k ((1970 + a : Nat) : Int) ((1 + b : Nat) : Int) = some (yrs a + mon ((1970 + a : Nat) : Int) b) := by
  intro k hk
  obtain ⟨q, rfl⟩ : ∃ q, k = (q + b + 1) + a + 1 := ⟨k - (b + 1 + a + 1), by omega⟩
  have hy := yrs_bd a
  have hd := days_bd a ha
  have hm := mon_bd a ha
  generalize hz : ((1970 + a : Nat) : Int) = z at *
  have h0 := before_l0 a (by omega) z ((1 + b : Nat) : Int) (by omega) a (q + b + 1) (Nat.le_refl _)
  have h1 := before_l1 z hd hm b hb (yrs a) ⟨by omega, by omega⟩ b q (Nat.le_refl _)
  rw [Nat.sub_self] at h0 h1
  have e0 : yrs 0 = 0 := rfl
  have e1 : mon z 0 = 0 := rfl
  have e2 : ((1970 + 0 : Nat) : Int) = 1970 := rfl
  have e3 : ((1 + 0 : Nat) : Int) = 1 := rfl
  rw [e0, e2] at h0
  rw [e1, e3, Int.add_zero] at h1
  rw [stamp_before.f, h0, h1]
theorem bef_last : stamp_before.f 400 2200 1 = some 84006 := by kernel_rfl
theorem yrs_last : yrs 230 = 84006 := by
  have h := before_l0 230 (Nat.le_refl _) 2200 1 rfl 230 169 (Nat.le_refl _)
  have hl : stamp_before.f 400 2200 1 = some (yrs 230) := by
    have e0 : yrs 0 = 0 := rfl
    have e2 : ((1970 + 0 : Nat) : Int) = 1970 := rfl
    rw [Nat.sub_self, e0, e2] at h
    rw [stamp_before.f, h, stamp_before.l1, if_neg (by decide)]
  rw [bef_last] at hl
  exact (Option.some.inj hl).symm
theorem before_2200 : ∀ k, 400 ≤ k → stamp_before.f k 2200 1 = some 84006 := up (fun k => stamp_before.mono _ _ k) bef_last
end Go.Proofs.YtghdkpcpgpfgcaaDoor.XSta
